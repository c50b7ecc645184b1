/-
  The law TruckServes.
-/
import Derived.Test.YtcgicnfjcndedaaT27
set_option linter.all false
namespace Go.Proofs.Ytcgicnfjcndedaa
open Go Go.W Go.RowKit

structure PlanOk (n : Int) (l : List Edg) (ts : List Truck) (ns : List Need) (hd : Int) (rs : List Rt) (left : List Int) : Prop where
  night : nightErr n l ts ns hd = 0
  walks : ∀ i (hi : i < rs.length), walkE n l ts ns hd rs[i].trk rs[i].nd.l = 0
  trk : (rs.map (·.trk)).Nodup
  nd : (allN rs ++ left).Nodup
  good : goodAll ns.length (allN rs ++ left) = true
  sorted : sortedB left = true
theorem routesE_ok {n : Int} {l : List Edg} {ts : List Truck} {ns : List Need} {hd : Int} : ∀ {rs : List Rt}, routesE n l ts ns hd rs = 0 → ∀ i (hi : i < rs.length), walkE n l ts ns hd rs[i].trk rs[i].nd.l = 0
  | [], _, i, hi => by simp at hi
  | r :: rs, h, i, hi => by
    rw [routesE] at h
    have h0 : walkE n l ts ns hd r.trk r.nd.l = 0 := by
      by_cases h1 : walkE n l ts ns hd r.trk r.nd.l = 0
      · exact h1
      · rw [if_pos h1] at h; exact h
    rw [if_neg (by simp [h0])] at h
    cases i with
    | zero => exact h0
    | succ i => exact routesE_ok h i (by simpa using hi)
theorem planOk_of {n : Int} {l : List Edg} {ts : List Truck} {ns : List Need} {hd : Int} {rs : List Rt} {left : List Int} (h : planErr n l ts ns hd rs left = 0) : PlanOk n l ts ns hd rs left := by
  unfold planErr at h
  split at h
  · rename_i h1; exact absurd h h1
  · rename_i h1
    split at h
    · rename_i h2; exact absurd h h2
    · rename_i h2
      split at h
      · cases h
      · rename_i h3
        split at h
        · rename_i h4
          split at h
          · rename_i h5
            have h3' : twiceB (rs.map (·.trk)) = false ∧ twiceB (allN rs ++ left) = false := by simpa using h3
            exact ⟨by simpa using h1, routesE_ok (by simpa using h2), by simpa [twiceB] using h3'.1, by simpa [twiceB] using h3'.2, h4, h5⟩
          · cases h
        · cases h
/-- how often each need has been served -/
def cntL (k : Nat) (a : List Int) : List Int := (List.range k).map fun x : Nat => ((a.count (x : Int) : Nat) : Int)
theorem cntL_len (k : Nat) (a : List Int) : (cntL k a).length = k := by simp [cntL]
theorem cntL_at {k : Nat} {a : List Int} {x : Nat} (h : x < (cntL k a).length) : (cntL k a)[x] = ((a.count (x : Int) : Nat) : Int) := by simp [cntL]
theorem cntL_nil (k : Nat) : cntL k [] = List.replicate k 0 := by
  apply List.ext_getElem
  · simp [cntL]
  · intro i h1 h2; simp [cntL]
theorem cntL_add {k : Nat} {a : List Int} {x : Nat} (h : x < k) : cntL k (a ++ [(x : Int)]) = (cntL k a).set x (((a.count (x : Int) : Nat) : Int) + 1) := by
  apply List.ext_getElem
  · simp [cntL]
  · intro i h1 h2
    rw [cntL_at, List.getElem_set]
    rw [List.count_append, List.count_cons, List.count_nil]
    by_cases hx : x = i
    · subst hx; simp
    · rw [if_neg hx, cntL_at]
      have : ¬ (x : Int) = (i : Int) := by omega
      simp [this]
theorem cntL_one {k : Nat} {a : List Int} (hn : a.Nodup) (hg : goodAll k a = true) {x : Nat} (h : x < (cntL k a).length) : (cntL k a)[x] = 1 := by
  rw [cntL_at]
  have hm := ((good_prog hn).1 hg).1 x (by rw [cntL_len] at h; exact h)
  have h1 := List.nodup_iff_count.1 hn (x : Int)
  have h2 := List.count_pos_iff.2 hm
  omega
theorem sorted_lt {l : List Int} (hs : sortedB l = true) (hn : l.Nodup) {j : Nat} (hj : j + 1 < l.length) : l[j] < l[j + 1] := by
  have h2 := List.all_eq_true.1 hs j (List.mem_range.2 (by omega))
  have h3 := of_decide_eq_true h2
  have e1 : l.getD j 0 = l[j] := by simp [show j < l.length by omega]
  have e2 : l.getD (j + 1) 0 = l[j + 1] := by simp [hj]
  rw [e1, e2] at h3
  have h4 : l[j] ≠ l[j + 1] := by
    have := List.nodup_iff_pairwise_ne.1 hn
    rw [List.pairwise_iff_getElem] at this
    exact this j (j + 1) (by omega) hj (by omega)
  omega
theorem allN_take {rs : List Rt} {j : Nat} (h : j < rs.length) : allN (rs.take (j + 1)) = allN (rs.take j) ++ rs[j].nd.l := by
  rw [List.take_succ_eq_append_getElem h]; unfold allN; rw [List.flatMap_append, List.flatMap_cons, List.flatMap_nil, List.append_nil]

set_option maxRecDepth 20000 in
set_option maxHeartbeats 2000000 in
theorem lawServes (n hd : Int) (A B C P F : Option Addr) (l : List Edg) (ts : List Truck) (ns : List Need) (rs : List Rt) (left : List Int) (ca cb cc cp cf : Nat) (w0 : World) (hN : NightAt w0 A B C l ts ns cc) (hP : RtsAt0 w0 P rs) (hF : IntsAt w0 F left) :
    Calls Try.prog 9 #[.agg #[I n, .slice A l.length ca, .slice B ts.length cb, .slice C ns.length cc, I hd], .agg #[.slice P rs.length cp, .slice F left.length cf]] w0 fun e w' => e = .returned (.bool true) ∧ Below w0.heap.size w0 w' := by
  have H := SH.refl w0
  refine Calls.ofWP Try.func9 rfl Try.results9 Try.ntmps9 rfl ?_
  refine WP.seq ?_
  refine WP.region ?_
  refine OPS.box rfl rfl rfl rfl (cA rfl) H ?_
  clear H; intro g2 w H
  refine OPS.box rfl rfl rfl rfl (cA rfl) H ?_
  clear H; intro g3 w H
  refine OPS.val rfl rfl rfl (Ev.asB rfl) ?_
  refine OPS.nil ?_
  refine WP.seq ?_
  refine WP.seq ?_
  refine WP.region ?_
  refine OPS.val rfl rfl rfl ((by first | exact Ev.loadO 0 H rfl (agg_run rfl) (size_run rfl) (by first | assumption | rfl) rfl | exact Ev.loadO 1 H rfl (agg_run rfl) (size_run rfl) (by first | assumption | rfl) rfl | exact Ev.loadO 2 H rfl (agg_run rfl) (size_run rfl) (by first | assumption | rfl) rfl | exact Ev.loadO 3 H rfl (agg_run rfl) (size_run rfl) (by first | assumption | rfl) rfl | exact Ev.loadO 4 H rfl (agg_run rfl) (size_run rfl) (by first | assumption | rfl) rfl | exact Ev.loadO 5 H rfl (agg_run rfl) (size_run rfl) (by first | assumption | rfl) rfl | exact Ev.loadO 6 H rfl (agg_run rfl) (size_run rfl) (by first | assumption | rfl) rfl | (change Ev _ _ _ _ (Op.load 28 (Operand.tmp 2)) _; fail))) ?_
  refine OPS.call (d := some 16) rfl rfl rfl (EvC.func (fun_run rfl)) (r42Few n hd A B C l.length ts.length ns.length ca cb cc w) ?_
  rintro _ w ⟨rfl, hb⟩
  refine ⟨_, rfl, ?_⟩
  replace H := H.toBelow hb; clear hb
  refine OPS.val rfl rfl rfl (Ev.not rfl) ?_
  refine OPS.val rfl rfl rfl (Ev.mvB rfl) ?_
  refine OPS.gval rfl rfl rfl rfl rfl (fun hg => (by first | exact Ev.loadO 0 H rfl (agg_run rfl) (size_run rfl) (by first | assumption | rfl) rfl | exact Ev.loadO 1 H rfl (agg_run rfl) (size_run rfl) (by first | assumption | rfl) rfl | exact Ev.loadO 2 H rfl (agg_run rfl) (size_run rfl) (by first | assumption | rfl) rfl | exact Ev.loadO 3 H rfl (agg_run rfl) (size_run rfl) (by first | assumption | rfl) rfl | exact Ev.loadO 4 H rfl (agg_run rfl) (size_run rfl) (by first | assumption | rfl) rfl | exact Ev.loadO 5 H rfl (agg_run rfl) (size_run rfl) (by first | assumption | rfl) rfl | exact Ev.loadO 6 H rfl (agg_run rfl) (size_run rfl) (by first | assumption | rfl) rfl | (change Ev _ _ _ _ (Op.load 45 (Operand.tmp 3)) _; fail))) ?_
  refine OPS.gcall0 (f := 19) (lawSmall P F rs left cp cf w (hP.rows.sh H)) (fun _ _ h => h) rfl rfl rfl rfl rfl (fun hg => EvC.conv (EvC.func (fun_run rfl)) (l1 (by first | rfl | exact gvE hg rfl))) ?_
  intro w hbc; replace H := H.toBelow hbc
  refine OPS.gval rfl rfl rfl rfl rfl (fun hg => Ev.not (by first | rfl | exact gvE hg rfl)) ?_
  refine OPS.val rfl rfl rfl ((by first | exact Ev.pickOr rfl rfl rfl | exact Ev.pickAnd rfl rfl rfl)) ?_
  refine OPS.nil ?_
  refine WP.cond rfl (fun hc1 => ?_) (fun hc1 => ?_)
  · refine WP.seq ?_
    refine WP.region ?_
    refine OPS.call (d := some 23) rfl rfl rfl (EvC.func (fun_run rfl)) (lawAwake w) ?_
    rintro _ w ⟨rfl, hb⟩
    refine ⟨_, rfl, ?_⟩
    replace H := H.toBelow hb; clear hb
    refine OPS.val rfl rfl rfl (Ev.asB rfl) ?_
    refine OPS.nil ?_
    refine WP.ret ⟨_, rfl, ?_⟩
    exact ⟨rfl, H.below⟩
  obtain ⟨hfw, hsm⟩ : fewB l.length ts.length ns.length = true ∧ smallB rs left = true := by simpa using hc1
  have hf1 := fewB_ok hfw
  have hf2 := smallB_ok hsm
  have hP' := hP.few hsm
  refine WP.skip ?_
  refine WP.seq ?_
  refine WP.seq ?_
  refine WP.region ?_
  refine OPS.val rfl rfl rfl ((by first | exact Ev.loadO 0 H rfl (agg_run rfl) (size_run rfl) (by first | assumption | rfl) rfl | exact Ev.loadO 1 H rfl (agg_run rfl) (size_run rfl) (by first | assumption | rfl) rfl | exact Ev.loadO 2 H rfl (agg_run rfl) (size_run rfl) (by first | assumption | rfl) rfl | exact Ev.loadO 3 H rfl (agg_run rfl) (size_run rfl) (by first | assumption | rfl) rfl | exact Ev.loadO 4 H rfl (agg_run rfl) (size_run rfl) (by first | assumption | rfl) rfl | exact Ev.loadO 5 H rfl (agg_run rfl) (size_run rfl) (by first | assumption | rfl) rfl | exact Ev.loadO 6 H rfl (agg_run rfl) (size_run rfl) (by first | assumption | rfl) rfl | (change Ev _ _ _ _ (Op.load 28 (Operand.tmp 2)) _; fail))) ?_
  refine OPS.val rfl rfl rfl ((by first | exact Ev.loadO 0 H rfl (agg_run rfl) (size_run rfl) (by first | assumption | rfl) rfl | exact Ev.loadO 1 H rfl (agg_run rfl) (size_run rfl) (by first | assumption | rfl) rfl | exact Ev.loadO 2 H rfl (agg_run rfl) (size_run rfl) (by first | assumption | rfl) rfl | exact Ev.loadO 3 H rfl (agg_run rfl) (size_run rfl) (by first | assumption | rfl) rfl | exact Ev.loadO 4 H rfl (agg_run rfl) (size_run rfl) (by first | assumption | rfl) rfl | exact Ev.loadO 5 H rfl (agg_run rfl) (size_run rfl) (by first | assumption | rfl) rfl | exact Ev.loadO 6 H rfl (agg_run rfl) (size_run rfl) (by first | assumption | rfl) rfl | (change Ev _ _ _ _ (Op.load 45 (Operand.tmp 3)) _; fail))) ?_
  refine OPS.call (d := some 26) rfl rfl rfl (EvC.func (fun_run rfl)) (truckFeasible n hd A B C P F l ts ns rs left ca cb cc cp cf w (hN.sh H).l (hN.sh H).t (hN.sh H).n hN.c (hP'.sh H) (hF.sh H) (by omega) (by omega)) ?_
  rintro _ w ⟨rfl, hb⟩
  refine ⟨_, rfl, ?_⟩
  replace H := H.toBelow hb; clear hb
  refine OPS.val rfl rfl rfl (Ev.neq rfl rfl) ?_
  refine OPS.nil ?_
  refine WP.cond rfl (fun hc3 => ?_) (fun hc3 => ?_)
  · refine WP.seq ?_
    refine WP.region ?_
    refine OPS.call (d := some 28) rfl rfl rfl (EvC.func (fun_run rfl)) (lawAwake w) ?_
    rintro _ w ⟨rfl, hb⟩
    refine ⟨_, rfl, ?_⟩
    replace H := H.toBelow hb; clear hb
    refine OPS.val rfl rfl rfl (Ev.asB rfl) ?_
    refine OPS.nil ?_
    refine WP.ret ⟨_, rfl, ?_⟩
    exact ⟨rfl, H.below⟩
  have hpe : planErr n l ts ns hd rs left = 0 := by simpa using hc3
  have hK := planOk_of hpe
  have hnl := hf1.2.2
  have hlenA : ∀ j, (allN (rs.take j)).length ≤ 12000 := fun j => by
    have h1 := allN_len (rs.take j) (fun r hr => hP'.len r (List.mem_of_mem_take hr))
    have h2 : (rs.take j).length ≤ rs.length := List.length_take_le' _ _
    omega
  refine WP.skip ?_
  refine WP.seq ?_
  refine WP.region ?_
  refine OPS.val rfl rfl rfl (Ev.fieldAddr (fld_run rfl) rfl) ?_
  refine OPS.val rfl rfl rfl (Ev.load1 (agg_run rfl) rfl (by first | exact H.ldL 0 rfl _ rfl | exact H.ldL 1 rfl _ rfl | exact H.ldL 2 rfl _ rfl | exact H.ldL 3 rfl _ rfl | exact H.ldL 4 rfl _ rfl | exact H.ldL 5 rfl _ rfl | exact H.ldL 6 rfl _ rfl | exact H.ldL 7 rfl _ rfl | exact H.ld0 (by assumption) | assumption | exact H.ldS (by assumption) (by assumption))) ?_
  refine OPS.val rfl rfl rfl (Ev.len (el_run rfl) rfl) ?_
  refine OPS.makeSlice rfl rfl rfl rfl (sl_run rfl) rfl rfl rfl (by omega) (by omega) H ?_
  clear H; intro g32 w H
  refine OPS.val rfl rfl rfl (Ev.asS rfl) ?_
  refine OPS.nil ?_
  refine WP.seq ?_
  refine WP.seq ?_
  refine WP.region ?_
  refine OPS.val rfl rfl rfl (Ev.asI rfl) ?_
  refine OPS.nil ?_
  refine WP.block ?_
  refine WP.loop [4, 6, 7, 8, 9, 10, 11, 12, 33, 34, 35, 36, 37, 38, 39, 40, 41, 42, 43, 44, 45, 46, 47, 48, 49, 50, 51, 52, 53, 54, 55, 56, 57, 58, 59, 60, 61, 62, 63, 64, 65, 66, 67, 68, 69, 70, 71, 72, 73, 74, 75, 76, 77, 78, 79, 80, 81, 82, 83, 84, 85, 86, 87, 88, 89, 90, 91, 92, 93, 94, 95, 96, 97, 98, 99, 100, 101, 102, 103, 104, 105, 106, 107, 108] (fun k e w' => ∃ (j : Nat), j + k = rs.length ∧ e 6 = I j ∧ SH w0 [] w' [⟨g32, 3, (cntL ns.length (allN (rs.take j))).map I⟩, ⟨g3, 45, [.slice P rs.length cp, .slice F left.length cf]⟩, ⟨g2, 28, [I n, .slice A l.length ca, .slice B ts.length cb, .slice C ns.length cc, I hd]⟩]) (rs.length) (⟨0, by omega, rfl, (by rw [List.take_zero, show allN [] = [] from rfl, cntL_nil, ← mkL_ones]; exact H)⟩) ?_
  clear H
  rintro k u w ⟨j, hk, h6, H⟩
  refine WP.know (t := 6) h6 ?_
  refine WP.seq ?_
  refine WP.seq ?_
  refine WP.region ?_
  refine OPS.val rfl rfl rfl (Ev.mvI rfl) ?_
  refine OPS.val rfl rfl rfl (Ev.fieldAddr (fld_run rfl) rfl) ?_
  refine OPS.val rfl rfl rfl (Ev.load1 (agg_run rfl) rfl (by first | exact H.ldL 0 rfl _ rfl | exact H.ldL 1 rfl _ rfl | exact H.ldL 2 rfl _ rfl | exact H.ldL 3 rfl _ rfl | exact H.ldL 4 rfl _ rfl | exact H.ldL 5 rfl _ rfl | exact H.ldL 6 rfl _ rfl | exact H.ldL 7 rfl _ rfl | exact H.ld0 (by assumption) | assumption | exact H.ldS (by assumption) (by assumption))) ?_
  refine OPS.val rfl rfl rfl (Ev.len (el_run rfl) rfl) ?_
  refine OPS.val rfl rfl rfl (Ev.lss rfl rfl) ?_
  refine OPS.nil ?_
  refine WP.cond rfl (fun hc7 => ?_) (fun hc7 => ?_)
  · have hlt : j < rs.length := by simpa using hc7
    obtain ⟨b, o, rfl, hc⟩ := hP.rows j hlt
    have hr := hP.ints rs[j] (List.getElem_mem hlt)
    have hrl := hP'.len rs[j] (List.getElem_mem hlt)
    have hrc := hP.cap rs[j] (List.getElem_mem hlt)
    have hc' := cellsAt_sh H hc
    have hE := hK.walks j hlt
    refine WP.skip ?_
    refine WP.seq ?_
    refine WP.block ?_
    refine WP.seq ?_
    refine WP.region ?_
    refine OPS.val rfl rfl rfl (Ev.fieldAddr (fld_run rfl) rfl) ?_
    refine OPS.val rfl rfl rfl (Ev.load1 (agg_run rfl) rfl (by first | exact H.ldL 0 rfl _ rfl | exact H.ldL 1 rfl _ rfl | exact H.ldL 2 rfl _ rfl | exact H.ldL 3 rfl _ rfl | exact H.ldL 4 rfl _ rfl | exact H.ldL 5 rfl _ rfl | exact H.ldL 6 rfl _ rfl | exact H.ldL 7 rfl _ rfl | exact H.ld0 (by assumption) | assumption | exact H.ldS (by assumption) (by assumption))) ?_
    refine OPS.val rfl rfl rfl (Ev.mvI rfl) ?_
    refine OPS.val rfl rfl rfl ((by first | exact Ev.indexAddr1 (el_run rfl) (size_run rfl) rfl rfl rfl (by omega) | exact Ev.indexAddr (el_run rfl) (size_run rfl) rfl rfl rfl (by omega))) ?_
    refine OPS.val rfl rfl rfl (Ev.loadN (rtCells rs[j]) (agg_run rfl) (size_run rfl) rfl hc') ?_
    refine OPS.alloc rfl rfl rfl rfl (zero_run rfl) rfl H ?_
    clear H; intro g7 w H
    first | refine OPS.store 0 _ rfl rfl rfl (size_run rfl) rfl (cA rfl) rfl rfl H rfl (by simp) ?_ | refine OPS.store 1 _ rfl rfl rfl (size_run rfl) rfl (cA rfl) rfl rfl H rfl (by simp) ?_ | refine OPS.store 2 _ rfl rfl rfl (size_run rfl) rfl (cA rfl) rfl rfl H rfl (by simp) ?_ | refine OPS.store 3 _ rfl rfl rfl (size_run rfl) rfl (cA rfl) rfl rfl H rfl (by simp) ?_ | refine OPS.store 4 _ rfl rfl rfl (size_run rfl) rfl (cA rfl) rfl rfl H rfl (by simp) ?_ | refine OPS.store 5 _ rfl rfl rfl (size_run rfl) rfl (cA rfl) rfl rfl H rfl (by simp) ?_ | refine OPS.store 6 _ rfl rfl rfl (size_run rfl) rfl (cA rfl) rfl rfl H rfl (by simp) ?_ | refine OPS.store 7 _ rfl rfl rfl (size_run rfl) rfl (cA rfl) rfl rfl H rfl (by simp) ?_ | refine OPS.store 8 _ rfl rfl rfl (size_run rfl) rfl (cA rfl) rfl rfl H rfl (by simp) ?_
    clear H; intro w H; try simp only [List.set_cons_zero, List.set_cons_succ, putL, Nat.zero_add] at H
    refine OPS.nil ?_
    refine WP.seq ?_
    refine WP.region ?_
    refine OPS.val rfl rfl rfl ((by first | exact Ev.loadO 0 H rfl (agg_run rfl) (size_run rfl) (by first | assumption | rfl) rfl | exact Ev.loadO 1 H rfl (agg_run rfl) (size_run rfl) (by first | assumption | rfl) rfl | exact Ev.loadO 2 H rfl (agg_run rfl) (size_run rfl) (by first | assumption | rfl) rfl | exact Ev.loadO 3 H rfl (agg_run rfl) (size_run rfl) (by first | assumption | rfl) rfl | exact Ev.loadO 4 H rfl (agg_run rfl) (size_run rfl) (by first | assumption | rfl) rfl | exact Ev.loadO 5 H rfl (agg_run rfl) (size_run rfl) (by first | assumption | rfl) rfl | exact Ev.loadO 6 H rfl (agg_run rfl) (size_run rfl) (by first | assumption | rfl) rfl | (change Ev _ _ _ _ (Op.load 28 (Operand.tmp 2)) _; fail))) ?_
    refine OPS.val rfl rfl rfl ((by first | exact Ev.loadO 0 H rfl (agg_run rfl) (size_run rfl) (by first | assumption | rfl) rfl | exact Ev.loadO 1 H rfl (agg_run rfl) (size_run rfl) (by first | assumption | rfl) rfl | exact Ev.loadO 2 H rfl (agg_run rfl) (size_run rfl) (by first | assumption | rfl) rfl | exact Ev.loadO 3 H rfl (agg_run rfl) (size_run rfl) (by first | assumption | rfl) rfl | exact Ev.loadO 4 H rfl (agg_run rfl) (size_run rfl) (by first | assumption | rfl) rfl | exact Ev.loadO 5 H rfl (agg_run rfl) (size_run rfl) (by first | assumption | rfl) rfl | exact Ev.loadO 6 H rfl (agg_run rfl) (size_run rfl) (by first | assumption | rfl) rfl | (change Ev _ _ _ _ (Op.load 35 (Operand.tmp 7)) _; fail))) ?_
    refine OPS.call (d := some 48) rfl rfl rfl (EvC.func (fun_run rfl)) (truckWalkP n hd rs[j].trk A B C rs[j].nd.A l ts ns rs[j].nd.l ca cb cc rs[j].nd.cap w (hN.sh H).l (hN.sh H).t (hN.sh H).n hN.c (hr.sh H) (by unfold maxLen; omega) hrc) ?_
    rintro _ w ⟨V, cv, Lv, rfl, hO, Hc⟩
    refine ⟨_, rfl, ?_⟩
    replace H := SH.call (Lv := []) (by rw [List.append_nil]; exact H) Hc
    clear Hc hc'
    rw [hE]
    obtain ⟨m, q, t, hnm, hqm, hW⟩ := walkOk_of hE
    have hVl : (outV n l ts ns hd rs[j].trk rs[j].nd.l).length = rs[j].nd.l.length := by rw [hnm, hqm, hW.V, goV_len]
    have hVn : ∀ i (hi : i < rs[j].nd.l.length), ((outV n l ts ns hd rs[j].trk rs[j].nd.l)[i]'(by omega)).need = rs[j].nd.l[i] := fun i hi => by
      have e : (outV n l ts ns hd rs[j].trk rs[j].nd.l)[i]'(by omega) = (goV (roadD m l) hd ns rs[j].nd.l (startT t))[i]'(by rw [goV_len]; exact hi) := by
        have e2 : outV n l ts ns hd rs[j].trk rs[j].nd.l = goV (roadD m l) hd ns rs[j].nd.l (startT t) := by rw [hnm, hqm]; exact hW.V
        simp only [e2]
      rw [e, goV_at _ hi]; rfl
    refine OPS.val rfl rfl rfl (Ev.mvT rfl) ?_
    refine OPS.val rfl rfl rfl (Ev.extract rfl rfl) ?_
    refine OPS.val rfl rfl rfl (Ev.extract rfl rfl) ?_
    refine OPS.val rfl rfl rfl (Ev.extract rfl rfl) ?_
    refine OPS.val rfl rfl rfl (Ev.asS rfl) ?_
    refine OPS.val rfl rfl rfl (Ev.asI rfl) ?_
    refine OPS.val rfl rfl rfl (Ev.asI rfl) ?_
    refine OPS.nil ?_
    refine WP.seq ?_
    refine WP.seq ?_
    refine WP.region ?_
    refine OPS.val rfl rfl rfl (Ev.mvI rfl) ?_
    refine OPS.val rfl rfl rfl (Ev.neq rfl rfl) ?_
    refine OPS.val rfl rfl rfl (Ev.mvB rfl) ?_
    refine OPS.gval rfl rfl rfl rfl rfl (fun hg => Ev.mvS (by first | rfl | exact gvE hg rfl)) ?_
    refine OPS.gval rfl rfl rfl rfl rfl (fun hg => Ev.len (el_run rfl) (by first | rfl | exact gvE hg rfl)) ?_
    refine OPS.gval rfl rfl rfl rfl rfl (fun hg => Ev.fieldAddr (fld_run rfl) (by first | rfl | exact gvE hg rfl)) ?_
    refine OPS.gval rfl rfl rfl rfl rfl (fun hg => Ev.load1 (agg_run rfl) (by first | rfl | exact gvE hg rfl) (by first | exact H.ldL 0 rfl _ rfl | exact H.ldL 1 rfl _ rfl | exact H.ldL 2 rfl _ rfl | exact H.ldL 3 rfl _ rfl | exact H.ldL 4 rfl _ rfl | exact H.ldL 5 rfl _ rfl | exact H.ldL 6 rfl _ rfl | exact H.ldL 7 rfl _ rfl | exact H.ld0 (by assumption) | assumption | exact H.ldS (by assumption) (by assumption))) ?_
    refine OPS.gval rfl rfl rfl rfl rfl (fun hg => Ev.len (el_run rfl) (by first | rfl | exact gvE hg rfl)) ?_
    refine OPS.gval rfl rfl rfl rfl rfl (fun hg => Ev.neq (by first | rfl | exact gvE hg rfl) (by first | rfl | exact gvE hg rfl)) ?_
    refine OPS.val rfl rfl rfl ((by first | exact Ev.pickOr rfl rfl rfl | exact Ev.pickAnd rfl rfl rfl)) ?_
    refine OPS.nil ?_
    refine WP.cond rfl (fun hc11 => ?_) (fun hc11 => ?_)
    · refine WP.seq ?_
      refine WP.region ?_
      refine OPS.val rfl rfl rfl (Ev.asB rfl) ?_
      refine OPS.nil ?_
      refine WP.ret ⟨_, rfl, ?_⟩
      exact absurd hc11 (by rw [hVl]; simp)
    refine WP.skip ?_
    refine WP.seq ?_
    refine WP.seq ?_
    refine WP.region ?_
    refine OPS.val rfl rfl rfl (Ev.asI rfl) ?_
    refine OPS.nil ?_
    refine WP.block ?_
    refine WP.loop [4, 11, 62, 63, 64, 65, 66, 67, 68, 69, 70, 71, 72, 73, 74, 75] (fun k e w' => ∃ (i : Nat), i + k = j ∧ e 11 = I i ∧ SH w0 [] w' ([⟨g7, 35, rtCells rs[j]⟩, ⟨g32, 3, (cntL ns.length (allN (rs.take j))).map I⟩, ⟨g3, 45, [.slice (some ⟨b, o, none⟩) rs.length cp, .slice F left.length cf]⟩, ⟨g2, 28, [I n, .slice A l.length ca, .slice B ts.length cb, .slice C ns.length cc, I hd]⟩] ++ Lv)) (j) (⟨0, by omega, rfl, H⟩) ?_
    clear H
    rintro k2 u2 w ⟨i, hk2, h11, H⟩
    refine WP.know (t := 11) h11 ?_
    refine WP.seq ?_
    refine WP.seq ?_
    refine WP.region ?_
    refine OPS.val rfl rfl rfl (Ev.mvI rfl) ?_
    refine OPS.val rfl rfl rfl (Ev.mvI rfl) ?_
    refine OPS.val rfl rfl rfl (Ev.lss rfl rfl) ?_
    refine OPS.nil ?_
    refine WP.cond rfl (fun hc14 => ?_) (fun hc14 => ?_)
    · have hij : i < j := by simpa using hc14
      obtain ⟨_, _, e1, hci⟩ := hP.rows i (by omega)
      cases e1
      have hci0 : w0.cell? ⟨b, o + i * 2, none⟩ = some (I (rs[i]'(by omega)).trk) := hci.1
      have hne : (rs[i]'(by omega)).trk ≠ rs[j].trk := by
        have h := List.nodup_iff_pairwise_ne.1 hK.trk
        rw [List.pairwise_iff_getElem] at h
        have := h i j (by simp; omega) (by simpa using hlt) hij
        simpa using this
      refine WP.skip ?_
      refine WP.seq ?_
      refine WP.block ?_
      refine WP.seq ?_
      refine WP.rstill mixed (by kernel_rfl) H ?_
      clear H; intro w hbw16 H
      refine OPS.val rfl rfl rfl (Ev.fieldAddr (fld_run rfl) rfl) ?_
      refine OPS.val rfl rfl rfl (Ev.load1 (agg_run rfl) rfl (by first | exact H.ldL 0 rfl _ rfl | exact H.ldL 1 rfl _ rfl | exact H.ldL 2 rfl _ rfl | exact H.ldL 3 rfl _ rfl | exact H.ldL 4 rfl _ rfl | exact H.ldL 5 rfl _ rfl | exact H.ldL 6 rfl _ rfl | exact H.ldL 7 rfl _ rfl | exact H.ld0 (by assumption) | assumption | exact H.ldS (by assumption) (by assumption))) ?_
      refine OPS.val rfl rfl rfl (Ev.mvI rfl) ?_
      refine OPS.val rfl rfl rfl ((by first | exact Ev.indexAddr1 (el_run rfl) (size_run rfl) rfl rfl rfl (by omega) | exact Ev.indexAddr (el_run rfl) (size_run rfl) rfl rfl rfl (by omega))) ?_
      refine OPS.val rfl rfl rfl (Ev.fieldAddr (fld_run rfl) rfl) ?_
      refine OPS.val rfl rfl rfl (Ev.load1 (agg_run rfl) rfl (by first | exact H.ldL 0 rfl _ rfl | exact H.ldL 1 rfl _ rfl | exact H.ldL 2 rfl _ rfl | exact H.ldL 3 rfl _ rfl | exact H.ldL 4 rfl _ rfl | exact H.ldL 5 rfl _ rfl | exact H.ldL 6 rfl _ rfl | exact H.ldL 7 rfl _ rfl | exact H.ld0 (by assumption) | assumption | exact H.ldS (by assumption) (by assumption))) ?_
      refine OPS.val rfl rfl rfl (Ev.fieldAddr (fld_run rfl) rfl) ?_
      refine OPS.val rfl rfl rfl (Ev.load1 (agg_run rfl) rfl (by first | exact H.ldL 0 rfl _ rfl | exact H.ldL 1 rfl _ rfl | exact H.ldL 2 rfl _ rfl | exact H.ldL 3 rfl _ rfl | exact H.ldL 4 rfl _ rfl | exact H.ldL 5 rfl _ rfl | exact H.ldL 6 rfl _ rfl | exact H.ldL 7 rfl _ rfl | exact H.ld0 (by assumption) | assumption | exact H.ldS (by assumption) (by assumption))) ?_
      refine OPS.val rfl rfl rfl (Ev.eql rfl rfl) ?_
      refine OPS.nil_s ?_
      refine WP.cond rfl (fun hc16 => ?_) (fun hc16 => ?_)
      · refine WP.seq ?_
        refine WP.region ?_
        refine OPS.val rfl rfl rfl (Ev.asB rfl) ?_
        refine OPS.nil ?_
        refine WP.ret ⟨_, rfl, ?_⟩
        exact absurd hc16 (by simpa using hne)
      refine WP.skip ?_
      refine WP.region ?_
      refine OPS.val rfl rfl rfl (Ev.mvI rfl) ?_
      refine OPS.val rfl rfl rfl (Ev.add rfl rfl (by unfold fits; omega)) ?_
      refine OPS.val rfl rfl rfl (Ev.asI rfl) ?_
      refine OPS.nil ?_
      exact ⟨(by repeat (first | exact Agree.refl _ _ | exact Agree.mix _ _ _ | refine Agree.upd rfl ?_ | refine Agree.mix2 rfl ?_)), k2 - 1, by omega, i + 1, by omega, rfl, H⟩
    clear hk2 h11 hc14
    have e0 : allN (rs.take j) ++ rs[j].nd.l.take 0 = allN (rs.take j) := by simp
    rw [← e0] at H
    refine WP.exit ?_
    refine XB.hit ?_
    refine WP.seq ?_
    refine WP.region ?_
    refine OPS.val rfl rfl rfl (Ev.asI rfl) ?_
    refine OPS.nil ?_
    refine WP.block ?_
    refine WP.loop [4, 12, 76, 77, 78, 79, 80, 81, 82, 83, 84, 85, 86, 87, 88, 89, 90, 91, 92, 93, 94, 95, 96, 97, 98, 99, 100, 101, 102, 103, 104, 105, 106, 107, 108] (fun k e w' => ∃ (i : Nat), i + k = rs[j].nd.l.length ∧ e 12 = I i ∧ SH w0 [] w' ([⟨g7, 35, rtCells rs[j]⟩, ⟨g32, 3, (cntL ns.length (allN (rs.take j) ++ rs[j].nd.l.take i)).map I⟩, ⟨g3, 45, [.slice (some ⟨b, o, none⟩) rs.length cp, .slice F left.length cf]⟩, ⟨g2, 28, [I n, .slice A l.length ca, .slice B ts.length cb, .slice C ns.length cc, I hd]⟩] ++ Lv)) (rs[j].nd.l.length) (⟨0, by omega, rfl, H⟩) ?_
    clear H
    rintro k3 u3 w ⟨i3, hk3, h12, H⟩
    refine WP.know (t := 12) h12 ?_
    refine WP.seq ?_
    refine WP.seq ?_
    refine WP.region ?_
    refine OPS.val rfl rfl rfl (Ev.mvI rfl) ?_
    refine OPS.val rfl rfl rfl (Ev.mvS rfl) ?_
    refine OPS.val rfl rfl rfl (Ev.len (el_run rfl) rfl) ?_
    refine OPS.val rfl rfl rfl (Ev.lss rfl rfl) ?_
    refine OPS.nil ?_
    refine WP.cond rfl (fun hc19 => ?_) (fun hc19 => ?_)
    · have hlt3 : i3 < rs[j].nd.l.length := by simp [hVl] at hc19; omega
      obtain ⟨hi0, hi1⟩ := hW.hr rs[j].nd.l[i3] (List.getElem_mem hlt3)
      obtain ⟨x, hx⟩ := Int.eq_ofNat_of_zero_le hi0
      have hxn : x < ns.length := by omega
      obtain ⟨bv, ov, rfl, hvc⟩ := (hO.rows visCells_len (by decide) H).1 i3 (by omega)
      have hv0 : w.cell? ⟨bv, ov + i3 * 4, none⟩ = some (I x) := by rw [hvc.1, hVn i3 hlt3, hx]
      clear hvc
      have hcl := cntL_len ns.length (allN (rs.take j) ++ rs[j].nd.l.take i3)
      have hcx : w.cell? ⟨g32, 0 + x, none⟩ = some (I (((allN (rs.take j) ++ rs[j].nd.l.take i3).count (x : Int) : Nat) : Int)) := by
        have h := (onesOwn (l := cntL ns.length (allN (rs.take j) ++ rs[j].nd.l.take i3)) H 1 rfl).atK (k := x) (by omega)
        rw [cntL_at] at h; exact h
      have hcb : (allN (rs.take j) ++ rs[j].nd.l.take i3).count (x : Int) ≤ 20000 := by
        refine Nat.le_trans (List.count_le_length) ?_
        have h1 := hlenA j
        have h2 : (rs[j].nd.l.take i3).length ≤ rs[j].nd.l.length := List.length_take_le' _ _
        rw [List.length_append]; omega
      refine WP.skip ?_
      refine WP.seq ?_
      refine WP.block ?_
      refine WP.seq ?_
      refine WP.seq ?_
      refine WP.rstill mixed (by kernel_rfl) H ?_
      clear H; intro w hbw21 H
      refine OPS.val rfl rfl rfl (Ev.mvS rfl) ?_
      refine OPS.val rfl rfl rfl (Ev.mvI rfl) ?_
      refine OPS.val rfl rfl rfl ((by first | exact Ev.indexAddr1 (el_run rfl) (size_run rfl) rfl rfl rfl (by omega) | exact Ev.indexAddr (el_run rfl) (size_run rfl) rfl rfl rfl (by omega))) ?_
      refine OPS.val rfl rfl rfl (Ev.fieldAddr (fld_run rfl) rfl) ?_
      replace hv0 := cell_below hbw21 hv0
      replace hcx := cell_below hbw21 hcx
      refine OPS.val rfl rfl rfl (Ev.load1 (agg_run rfl) rfl (by first | exact H.ldL 0 rfl _ rfl | exact H.ldL 1 rfl _ rfl | exact H.ldL 2 rfl _ rfl | exact H.ldL 3 rfl _ rfl | exact H.ldL 4 rfl _ rfl | exact H.ldL 5 rfl _ rfl | exact H.ldL 6 rfl _ rfl | exact H.ldL 7 rfl _ rfl | exact H.ld0 (by assumption) | assumption | exact H.ldS (by assumption) (by assumption))) ?_
      refine OPS.val rfl rfl rfl (Ev.lss rfl rfl) ?_
      refine OPS.val rfl rfl rfl (Ev.mvB rfl) ?_
      refine OPS.gval rfl rfl rfl rfl rfl (fun hg => Ev.mvS (by first | rfl | exact gvE hg rfl)) ?_
      refine OPS.gval rfl rfl rfl rfl rfl (fun hg => Ev.mvI (by first | rfl | exact gvE hg rfl)) ?_
      refine OPS.gval rfl rfl rfl rfl rfl (fun hg => (by first | exact Ev.indexAddr1 (el_run rfl) (size_run rfl) (by first | rfl | exact gvE hg rfl) (by first | rfl | exact gvE hg rfl) rfl (by omega) | exact Ev.indexAddr (el_run rfl) (size_run rfl) (by first | rfl | exact gvE hg rfl) (by first | rfl | exact gvE hg rfl) rfl (by omega))) ?_
      refine OPS.gval rfl rfl rfl rfl rfl (fun hg => Ev.fieldAddr (fld_run rfl) (by first | rfl | exact gvE hg rfl)) ?_
      refine OPS.gval rfl rfl rfl rfl rfl (fun hg => Ev.load1 (agg_run rfl) (by first | rfl | exact gvE hg rfl) (by first | exact H.ldL 0 rfl _ rfl | exact H.ldL 1 rfl _ rfl | exact H.ldL 2 rfl _ rfl | exact H.ldL 3 rfl _ rfl | exact H.ldL 4 rfl _ rfl | exact H.ldL 5 rfl _ rfl | exact H.ldL 6 rfl _ rfl | exact H.ldL 7 rfl _ rfl | exact H.ld0 (by assumption) | assumption | exact H.ldS (by assumption) (by assumption))) ?_
      refine OPS.gval rfl rfl rfl rfl rfl (fun hg => Ev.fieldAddr (fld_run rfl) (by first | rfl | exact gvE hg rfl)) ?_
      refine OPS.gval rfl rfl rfl rfl rfl (fun hg => Ev.load1 (agg_run rfl) (by first | rfl | exact gvE hg rfl) (by first | exact H.ldL 0 rfl _ rfl | exact H.ldL 1 rfl _ rfl | exact H.ldL 2 rfl _ rfl | exact H.ldL 3 rfl _ rfl | exact H.ldL 4 rfl _ rfl | exact H.ldL 5 rfl _ rfl | exact H.ldL 6 rfl _ rfl | exact H.ldL 7 rfl _ rfl | exact H.ld0 (by assumption) | assumption | exact H.ldS (by assumption) (by assumption))) ?_
      refine OPS.gval rfl rfl rfl rfl rfl (fun hg => Ev.len (el_run rfl) (by first | rfl | exact gvE hg rfl)) ?_
      refine OPS.gval rfl rfl rfl rfl rfl (fun hg => Ev.geq (by first | rfl | exact gvE hg rfl) (by first | rfl | exact gvE hg rfl)) ?_
      refine OPS.val rfl rfl rfl ((by first | exact Ev.pickOr rfl rfl rfl | exact Ev.pickAnd rfl rfl rfl)) ?_
      refine OPS.nil_s ?_
      refine WP.cond rfl (fun hc21 => ?_) (fun hc21 => ?_)
      · refine WP.seq ?_
        refine WP.region ?_
        refine OPS.val rfl rfl rfl (Ev.asB rfl) ?_
        refine OPS.nil ?_
        refine WP.ret ⟨_, rfl, ?_⟩
        exact absurd hc21 (by simp; omega)
      refine WP.skip ?_
      refine WP.region ?_
      refine OPS.val rfl rfl rfl (Ev.mvS rfl) ?_
      refine OPS.val rfl rfl rfl (Ev.mvS rfl) ?_
      refine OPS.val rfl rfl rfl (Ev.mvI rfl) ?_
      refine OPS.val rfl rfl rfl ((by first | exact Ev.indexAddr1 (el_run rfl) (size_run rfl) rfl rfl rfl (by omega) | exact Ev.indexAddr (el_run rfl) (size_run rfl) rfl rfl rfl (by omega))) ?_
      refine OPS.val rfl rfl rfl (Ev.fieldAddr (fld_run rfl) rfl) ?_
      refine OPS.val rfl rfl rfl (Ev.load1 (agg_run rfl) rfl (by first | exact H.ldL 0 rfl _ rfl | exact H.ldL 1 rfl _ rfl | exact H.ldL 2 rfl _ rfl | exact H.ldL 3 rfl _ rfl | exact H.ldL 4 rfl _ rfl | exact H.ldL 5 rfl _ rfl | exact H.ldL 6 rfl _ rfl | exact H.ldL 7 rfl _ rfl | exact H.ld0 (by assumption) | assumption | exact H.ldS (by assumption) (by assumption))) ?_
      refine OPS.val rfl rfl rfl ((by first | exact Ev.indexAddr1 (el_run rfl) (size_run rfl) rfl rfl rfl (by omega) | exact Ev.indexAddr (el_run rfl) (size_run rfl) rfl rfl rfl (by omega))) ?_
      refine OPS.val rfl rfl rfl (Ev.load1 (agg_run rfl) rfl (by first | exact H.ldL 0 rfl _ rfl | exact H.ldL 1 rfl _ rfl | exact H.ldL 2 rfl _ rfl | exact H.ldL 3 rfl _ rfl | exact H.ldL 4 rfl _ rfl | exact H.ldL 5 rfl _ rfl | exact H.ldL 6 rfl _ rfl | exact H.ldL 7 rfl _ rfl | exact H.ld0 (by assumption) | assumption | exact H.ldS (by assumption) (by assumption))) ?_
      refine OPS.val rfl rfl rfl (Ev.add rfl rfl (by unfold fits; omega)) ?_
      refine OPS.val rfl rfl rfl ((by first | exact Ev.indexAddr1 (el_run rfl) (size_run rfl) rfl rfl rfl (by omega) | exact Ev.indexAddr (el_run rfl) (size_run rfl) rfl rfl rfl (by omega))) ?_
      have hpu : putL ((cntL ns.length (allN (rs.take j) ++ rs[j].nd.l.take i3)).map I) (0 + x) [I ((((allN (rs.take j) ++ rs[j].nd.l.take i3).count (x : Int) : Nat) : Int) + 1)] = (cntL ns.length (allN (rs.take j) ++ rs[j].nd.l.take (i3 + 1))).map I := by
        rw [Nat.zero_add, putL_ones, ← cntL_add hxn, List.take_succ_eq_append_getElem hlt3, hx, List.append_assoc]
      refine OPS.store (vs := [I ((((allN (rs.take j) ++ rs[j].nd.l.take i3).count (x : Int) : Nat) : Int) + 1)]) 1 _ rfl rfl rfl (size_run rfl) rfl (cI rfl) rfl rfl H rfl (by simp only [List.length_map, hcl]; omega) ?_
      clear H; intro w H
      simp only [List.set_cons_zero, List.set_cons_succ, List.cons_append, List.nil_append] at H
      rw [hpu] at H
      refine OPS.nil ?_
      refine WP.region ?_
      refine OPS.val rfl rfl rfl (Ev.mvI rfl) ?_
      refine OPS.val rfl rfl rfl (Ev.add rfl rfl (by unfold fits; omega)) ?_
      refine OPS.val rfl rfl rfl (Ev.asI rfl) ?_
      refine OPS.nil ?_
      exact ⟨(by repeat (first | exact Agree.refl _ _ | exact Agree.mix _ _ _ | refine Agree.upd rfl ?_ | refine Agree.mix2 rfl ?_)), k3 - 1, by omega, i3 + 1, by omega, rfl, H⟩
    refine WP.exit ?_
    refine XB.hit ?_
    refine WP.region ?_
    refine OPS.val rfl rfl rfl (Ev.mvI rfl) ?_
    refine OPS.val rfl rfl rfl (Ev.add rfl rfl (by unfold fits; omega)) ?_
    refine OPS.val rfl rfl rfl (Ev.asI rfl) ?_
    refine OPS.nil ?_
    have hi3 : i3 = rs[j].nd.l.length := by simp [hVl] at hc19; omega
    subst hi3
    rw [List.take_length, ← allN_take hlt] at H
    exact ⟨(by repeat (first | exact Agree.refl _ _ | exact Agree.mix _ _ _ | refine Agree.upd rfl ?_ | refine Agree.mix2 rfl ?_)), k - 1, by omega, j + 1, by omega, rfl, (H.drop (List.sublist_append_left _ _)).drop (List.sublist_cons_self _ _)⟩
  have hj : j = rs.length := by simp at hc7; omega
  subst hj
  rw [List.take_length] at H
  refine WP.exit ?_
  refine XB.hit ?_
  refine WP.seq ?_
  refine WP.seq ?_
  refine WP.region ?_
  refine OPS.val rfl rfl rfl (Ev.asI rfl) ?_
  refine OPS.nil ?_
  refine WP.block ?_
  refine WP.loop [4, 13, 109, 110, 111, 112, 113, 114, 115, 116, 117, 118, 119, 120, 121, 122, 123, 124, 125, 126, 127, 128, 129, 130, 131, 132, 133, 134, 135, 136, 137, 138, 139, 140, 141, 142, 143, 144, 145, 146, 147, 148, 149, 150, 151, 152, 153, 154, 155, 156, 157, 158, 159, 160] (fun k e w' => ∃ (j : Nat), j + k = left.length ∧ e 13 = I j ∧ SH w0 [] w' [⟨g32, 3, (cntL ns.length (allN rs ++ left.take j)).map I⟩, ⟨g3, 45, [.slice P rs.length cp, .slice F left.length cf]⟩, ⟨g2, 28, [I n, .slice A l.length ca, .slice B ts.length cb, .slice C ns.length cc, I hd]⟩]) (left.length) (⟨0, by omega, rfl, (by rw [List.take_zero, List.append_nil]; exact H)⟩) ?_
  clear H
  rintro k u w ⟨j, hk, h13, H⟩
  refine WP.know (t := 13) h13 ?_
  refine WP.seq ?_
  refine WP.seq ?_
  refine WP.region ?_
  refine OPS.val rfl rfl rfl (Ev.mvI rfl) ?_
  refine OPS.val rfl rfl rfl (Ev.fieldAddr (fld_run rfl) rfl) ?_
  refine OPS.val rfl rfl rfl (Ev.load1 (agg_run rfl) rfl (by first | exact H.ldL 0 rfl _ rfl | exact H.ldL 1 rfl _ rfl | exact H.ldL 2 rfl _ rfl | exact H.ldL 3 rfl _ rfl | exact H.ldL 4 rfl _ rfl | exact H.ldL 5 rfl _ rfl | exact H.ldL 6 rfl _ rfl | exact H.ldL 7 rfl _ rfl | exact H.ld0 (by assumption) | assumption | exact H.ldS (by assumption) (by assumption))) ?_
  refine OPS.val rfl rfl rfl (Ev.len (el_run rfl) rfl) ?_
  refine OPS.val rfl rfl rfl (Ev.lss rfl rfl) ?_
  refine OPS.nil ?_
  refine WP.cond rfl (fun hc25 => ?_) (fun hc25 => ?_)
  · have hlt : j < left.length := by simpa using hc25
    obtain ⟨bf, of, rfl, hxf⟩ := hF j hlt
    have hx2 : w0.cell? ⟨bf, of + (j - 1), none⟩ = some (I (left.getD (j - 1) 0)) := by
      have h := hF.atK (show j - 1 < left.length by omega)
      rw [h]; simp [show j - 1 < left.length by omega]
    have hgd := hK.good
    simp only [goodAll, Bool.and_eq_true, decide_eq_true_eq] at hgd
    have hin := hgd.1 left[j] (List.mem_append_right _ (List.getElem_mem hlt))
    obtain ⟨x, hx⟩ := Int.eq_ofNat_of_zero_le hin.1
    have hxn : x < ns.length := by omega
    have hso : 0 < j → left.getD (j - 1) 0 < left[j] := fun h0 => by
      have h := sorted_lt hK.sorted (hK.nd.sublist (List.sublist_append_right _ _)) (j := j - 1) (by omega)
      simp only [show j - 1 + 1 = j by omega] at h
      simpa [show j - 1 < left.length by omega] using h
    rw [hx] at hxf
    have hcl := cntL_len ns.length (allN rs ++ left.take j)
    have hcx : w.cell? ⟨g32, 0 + x, none⟩ = some (I (((allN rs ++ left.take j).count (x : Int) : Nat) : Int)) := by
      have h := (onesOwn (l := cntL ns.length (allN rs ++ left.take j)) H 0 rfl).atK (k := x) (by omega)
      rw [cntL_at] at h; exact h
    have hcb : (allN rs ++ left.take j).count (x : Int) ≤ 20000 := by
      refine Nat.le_trans (List.count_le_length) ?_
      have h1 := hlenA rs.length
      rw [List.take_length] at h1
      have h2 : (left.take j).length ≤ left.length := List.length_take_le' _ _
      rw [List.length_append]; omega
    refine WP.skip ?_
    refine WP.seq ?_
    refine WP.block ?_
    refine WP.seq ?_
    refine WP.seq ?_
    refine WP.rstill mixed (by kernel_rfl) H ?_
    clear H; intro w hbw27 H
    refine OPS.val rfl rfl rfl (Ev.fieldAddr (fld_run rfl) rfl) ?_
    refine OPS.val rfl rfl rfl (Ev.load1 (agg_run rfl) rfl (by first | exact H.ldL 0 rfl _ rfl | exact H.ldL 1 rfl _ rfl | exact H.ldL 2 rfl _ rfl | exact H.ldL 3 rfl _ rfl | exact H.ldL 4 rfl _ rfl | exact H.ldL 5 rfl _ rfl | exact H.ldL 6 rfl _ rfl | exact H.ldL 7 rfl _ rfl | exact H.ld0 (by assumption) | assumption | exact H.ldS (by assumption) (by assumption))) ?_
    refine OPS.val rfl rfl rfl (Ev.mvI rfl) ?_
    refine OPS.val rfl rfl rfl ((by first | exact Ev.indexAddr1 (el_run rfl) (size_run rfl) rfl rfl rfl (by omega) | exact Ev.indexAddr (el_run rfl) (size_run rfl) rfl rfl rfl (by omega))) ?_
    refine OPS.val rfl rfl rfl (Ev.load1 (agg_run rfl) rfl (by first | exact H.ldL 0 rfl _ rfl | exact H.ldL 1 rfl _ rfl | exact H.ldL 2 rfl _ rfl | exact H.ldL 3 rfl _ rfl | exact H.ldL 4 rfl _ rfl | exact H.ldL 5 rfl _ rfl | exact H.ldL 6 rfl _ rfl | exact H.ldL 7 rfl _ rfl | exact H.ld0 (by assumption) | assumption | exact H.ldS (by assumption) (by assumption))) ?_
    refine OPS.val rfl rfl rfl (Ev.lss rfl rfl) ?_
    refine OPS.val rfl rfl rfl (Ev.mvB rfl) ?_
    refine OPS.gval rfl rfl rfl rfl rfl (fun hg => Ev.fieldAddr (fld_run rfl) (by first | rfl | exact gvE hg rfl)) ?_
    refine OPS.gval rfl rfl rfl rfl rfl (fun hg => Ev.load1 (agg_run rfl) (by first | rfl | exact gvE hg rfl) (by first | exact H.ldL 0 rfl _ rfl | exact H.ldL 1 rfl _ rfl | exact H.ldL 2 rfl _ rfl | exact H.ldL 3 rfl _ rfl | exact H.ldL 4 rfl _ rfl | exact H.ldL 5 rfl _ rfl | exact H.ldL 6 rfl _ rfl | exact H.ldL 7 rfl _ rfl | exact H.ld0 (by assumption) | assumption | exact H.ldS (by assumption) (by assumption))) ?_
    refine OPS.gval rfl rfl rfl rfl rfl (fun hg => Ev.mvI (by first | rfl | exact gvE hg rfl)) ?_
    refine OPS.gval rfl rfl rfl rfl rfl (fun hg => (by first | exact Ev.indexAddr1 (el_run rfl) (size_run rfl) (by first | rfl | exact gvE hg rfl) (by first | rfl | exact gvE hg rfl) rfl (by omega) | exact Ev.indexAddr (el_run rfl) (size_run rfl) (by first | rfl | exact gvE hg rfl) (by first | rfl | exact gvE hg rfl) rfl (by omega))) ?_
    refine OPS.gval rfl rfl rfl rfl rfl (fun hg => Ev.load1 (agg_run rfl) (by first | rfl | exact gvE hg rfl) (by first | exact H.ldL 0 rfl _ rfl | exact H.ldL 1 rfl _ rfl | exact H.ldL 2 rfl _ rfl | exact H.ldL 3 rfl _ rfl | exact H.ldL 4 rfl _ rfl | exact H.ldL 5 rfl _ rfl | exact H.ldL 6 rfl _ rfl | exact H.ldL 7 rfl _ rfl | exact H.ld0 (by assumption) | assumption | exact H.ldS (by assumption) (by assumption))) ?_
    refine OPS.gval rfl rfl rfl rfl rfl (fun hg => Ev.fieldAddr (fld_run rfl) (by first | rfl | exact gvE hg rfl)) ?_
    refine OPS.gval rfl rfl rfl rfl rfl (fun hg => Ev.load1 (agg_run rfl) (by first | rfl | exact gvE hg rfl) (by first | exact H.ldL 0 rfl _ rfl | exact H.ldL 1 rfl _ rfl | exact H.ldL 2 rfl _ rfl | exact H.ldL 3 rfl _ rfl | exact H.ldL 4 rfl _ rfl | exact H.ldL 5 rfl _ rfl | exact H.ldL 6 rfl _ rfl | exact H.ldL 7 rfl _ rfl | exact H.ld0 (by assumption) | assumption | exact H.ldS (by assumption) (by assumption))) ?_
    refine OPS.gval rfl rfl rfl rfl rfl (fun hg => Ev.len (el_run rfl) (by first | rfl | exact gvE hg rfl)) ?_
    refine OPS.gval rfl rfl rfl rfl rfl (fun hg => Ev.geq (by first | rfl | exact gvE hg rfl) (by first | rfl | exact gvE hg rfl)) ?_
    refine OPS.val rfl rfl rfl ((by first | exact Ev.pickOr rfl rfl rfl | exact Ev.pickAnd rfl rfl rfl)) ?_
    refine OPS.val rfl rfl rfl (Ev.mvB rfl) ?_
    refine OPS.gval rfl rfl rfl rfl rfl (fun hg => Ev.mvI (by first | rfl | exact gvE hg rfl)) ?_
    refine OPS.gval rfl rfl rfl rfl rfl (fun hg => Ev.gtr (by first | rfl | exact gvE hg rfl) (by first | rfl | exact gvE hg rfl)) ?_
    refine OPS.gval rfl rfl rfl rfl rfl (fun hg => Ev.mvB (by first | rfl | exact gvE hg rfl)) ?_
    refine OPS.gvalN rfl rfl (GB.g rfl) rfl rfl (fun hg => Ev.fieldAddr (fld_run rfl) (by first | rfl | exact gvE hg rfl)) ?_
    refine OPS.gvalN rfl rfl (GB.g rfl) rfl rfl (fun hg => Ev.load1 (agg_run rfl) (by first | rfl | exact gvE hg rfl) (by first | exact H.ldL 0 rfl _ rfl | exact H.ldL 1 rfl _ rfl | exact H.ldL 2 rfl _ rfl | exact H.ldL 3 rfl _ rfl | exact H.ldL 4 rfl _ rfl | exact H.ldL 5 rfl _ rfl | exact H.ldL 6 rfl _ rfl | exact H.ldL 7 rfl _ rfl | exact H.ld0 (by assumption) | assumption | exact H.ldS (by assumption) (by assumption))) ?_
    refine OPS.gvalN rfl rfl (GB.g rfl) rfl rfl (fun hg => Ev.mvI (by first | rfl | exact gvE hg rfl)) ?_
    refine OPS.gvalN rfl rfl (GB.g rfl) rfl rfl (fun hg => (by first | exact Ev.indexAddr1 (el_run rfl) (size_run rfl) (by first | rfl | exact gvE hg rfl) (by first | rfl | exact gvE hg rfl) rfl (by omega) | exact Ev.indexAddr (el_run rfl) (size_run rfl) (by first | rfl | exact gvE hg rfl) (by first | rfl | exact gvE hg rfl) rfl (by omega))) ?_
    refine OPS.gvalN rfl rfl (GB.g rfl) rfl rfl (fun hg => Ev.load1 (agg_run rfl) (by first | rfl | exact gvE hg rfl) (by first | exact H.ldL 0 rfl _ rfl | exact H.ldL 1 rfl _ rfl | exact H.ldL 2 rfl _ rfl | exact H.ldL 3 rfl _ rfl | exact H.ldL 4 rfl _ rfl | exact H.ldL 5 rfl _ rfl | exact H.ldL 6 rfl _ rfl | exact H.ldL 7 rfl _ rfl | exact H.ld0 (by assumption) | assumption | exact H.ldS (by assumption) (by assumption))) ?_
    refine OPS.gvalN rfl rfl (GB.g rfl) rfl rfl (fun hg => Ev.fieldAddr (fld_run rfl) (by first | rfl | exact gvE hg rfl)) ?_
    refine OPS.gvalN rfl rfl (GB.g rfl) rfl rfl (fun hg => Ev.load1 (agg_run rfl) (by first | rfl | exact gvE hg rfl) (by first | exact H.ldL 0 rfl _ rfl | exact H.ldL 1 rfl _ rfl | exact H.ldL 2 rfl _ rfl | exact H.ldL 3 rfl _ rfl | exact H.ldL 4 rfl _ rfl | exact H.ldL 5 rfl _ rfl | exact H.ldL 6 rfl _ rfl | exact H.ldL 7 rfl _ rfl | exact H.ld0 (by assumption) | assumption | exact H.ldS (by assumption) (by assumption))) ?_
    refine OPS.gvalN rfl rfl (GB.g rfl) rfl rfl (fun hg => Ev.mvI (by first | rfl | exact gvE hg rfl)) ?_
    refine OPS.gvalN rfl rfl (GB.g rfl) rfl rfl (fun hg => Ev.sub (by first | rfl | exact gvE hg rfl) (by first | rfl | exact gvE hg rfl) (by unfold fits; omega)) ?_
    refine OPS.gvalN rfl rfl (GB.g rfl) rfl rfl (fun hg => Ev.indexAddr1 (j := j - 1) (el_run rfl) (size_run rfl) (by first | rfl | exact gvE hg rfl) (by first | rfl | exact gvE hg rfl) (by simp at hg; omega) (by omega)) ?_
    refine OPS.gvalN rfl rfl (GB.g rfl) rfl rfl (fun hg => Ev.load1 (agg_run rfl) (by first | rfl | exact gvE hg rfl) (by first | exact H.ldL 0 rfl _ rfl | exact H.ldL 1 rfl _ rfl | exact H.ldL 2 rfl _ rfl | exact H.ldL 3 rfl _ rfl | exact H.ldL 4 rfl _ rfl | exact H.ldL 5 rfl _ rfl | exact H.ldL 6 rfl _ rfl | exact H.ldL 7 rfl _ rfl | exact H.ld0 (by assumption) | assumption | exact H.ldS (by assumption) (by assumption))) ?_
    refine OPS.gvalN rfl rfl (GB.g rfl) rfl rfl (fun hg => Ev.leq (by first | rfl | exact gvE hg rfl) (by first | rfl | exact gvE hg rfl)) ?_
    refine OPS.gval rfl rfl rfl rfl rfl (fun hg => (by first | exact Ev.pickAnd2 (beqT hg) (gvE hg rfl) rfl rfl | exact Ev.pickOr2 (beqT hg) (gvE hg rfl) rfl rfl)) ?_
    refine OPS.val rfl rfl rfl ((by first | exact Ev.pickOr rfl rfl rfl | exact Ev.pickAnd rfl rfl rfl)) ?_
    refine OPS.nil_s ?_
    refine WP.cond rfl (fun hc27 => ?_) (fun hc27 => ?_)
    · refine WP.seq ?_
      refine WP.region ?_
      refine OPS.val rfl rfl rfl (Ev.asB rfl) ?_
      refine OPS.nil ?_
      refine WP.ret ⟨_, rfl, ?_⟩
      exact absurd hc27 (by
        have hnn : ¬ ns.length ≤ x := by omega
        by_cases h0 : 0 < j
        · have := hso h0
          rw [hx] at this
          generalize left.getD (j - 1) 0 = y at *
          simp [h0]; omega
        · simp [show j = 0 by omega]; omega)
    refine WP.skip ?_
    refine WP.region ?_
    refine OPS.val rfl rfl rfl (Ev.mvS rfl) ?_
    refine OPS.val rfl rfl rfl (Ev.fieldAddr (fld_run rfl) rfl) ?_
    refine OPS.val rfl rfl rfl (Ev.load1 (agg_run rfl) rfl (by first | exact H.ldL 0 rfl _ rfl | exact H.ldL 1 rfl _ rfl | exact H.ldL 2 rfl _ rfl | exact H.ldL 3 rfl _ rfl | exact H.ldL 4 rfl _ rfl | exact H.ldL 5 rfl _ rfl | exact H.ldL 6 rfl _ rfl | exact H.ldL 7 rfl _ rfl | exact H.ld0 (by assumption) | assumption | exact H.ldS (by assumption) (by assumption))) ?_
    refine OPS.val rfl rfl rfl (Ev.mvI rfl) ?_
    refine OPS.val rfl rfl rfl ((by first | exact Ev.indexAddr1 (el_run rfl) (size_run rfl) rfl rfl rfl (by omega) | exact Ev.indexAddr (el_run rfl) (size_run rfl) rfl rfl rfl (by omega))) ?_
    refine OPS.val rfl rfl rfl (Ev.load1 (agg_run rfl) rfl (by first | exact H.ldL 0 rfl _ rfl | exact H.ldL 1 rfl _ rfl | exact H.ldL 2 rfl _ rfl | exact H.ldL 3 rfl _ rfl | exact H.ldL 4 rfl _ rfl | exact H.ldL 5 rfl _ rfl | exact H.ldL 6 rfl _ rfl | exact H.ldL 7 rfl _ rfl | exact H.ld0 (by assumption) | assumption | exact H.ldS (by assumption) (by assumption))) ?_
    refine OPS.val rfl rfl rfl ((by first | exact Ev.indexAddr1 (el_run rfl) (size_run rfl) rfl rfl rfl (by omega) | exact Ev.indexAddr (el_run rfl) (size_run rfl) rfl rfl rfl (by omega))) ?_
    replace hcx : w.cell? ⟨g32, 0 + x, none⟩ = some (I (((allN rs ++ left.take j).count (x : Int) : Nat) : Int)) := by
      have h := (onesOwn (l := cntL ns.length (allN rs ++ left.take j)) H 0 rfl).atK (k := x) (by omega)
      rw [cntL_at] at h; exact h
    refine OPS.val rfl rfl rfl (Ev.load1 (agg_run rfl) rfl (by first | exact H.ldL 0 rfl _ rfl | exact H.ldL 1 rfl _ rfl | exact H.ldL 2 rfl _ rfl | exact H.ldL 3 rfl _ rfl | exact H.ldL 4 rfl _ rfl | exact H.ldL 5 rfl _ rfl | exact H.ldL 6 rfl _ rfl | exact H.ldL 7 rfl _ rfl | exact H.ld0 (by assumption) | assumption | exact H.ldS (by assumption) (by assumption))) ?_
    refine OPS.val rfl rfl rfl (Ev.add rfl rfl (by unfold fits; omega)) ?_
    refine OPS.val rfl rfl rfl ((by first | exact Ev.indexAddr1 (el_run rfl) (size_run rfl) rfl rfl rfl (by omega) | exact Ev.indexAddr (el_run rfl) (size_run rfl) rfl rfl rfl (by omega))) ?_
    have hpu : putL ((cntL ns.length (allN rs ++ left.take j)).map I) (0 + x) [I ((((allN rs ++ left.take j).count (x : Int) : Nat) : Int) + 1)] = (cntL ns.length (allN rs ++ left.take (j + 1))).map I := by
      rw [Nat.zero_add, putL_ones, ← cntL_add hxn, List.take_succ_eq_append_getElem hlt, hx, List.append_assoc]
    refine OPS.store (vs := [I ((((allN rs ++ left.take j).count (x : Int) : Nat) : Int) + 1)]) 0 _ rfl rfl rfl (size_run rfl) rfl (cI rfl) rfl rfl H rfl (by simp only [List.length_map, hcl]; omega) ?_
    clear H; intro w H
    simp only [List.set_cons_zero, List.set_cons_succ] at H
    rw [hpu] at H
    refine OPS.nil ?_
    refine WP.region ?_
    refine OPS.val rfl rfl rfl (Ev.mvI rfl) ?_
    refine OPS.val rfl rfl rfl (Ev.add rfl rfl (by unfold fits; omega)) ?_
    refine OPS.val rfl rfl rfl (Ev.asI rfl) ?_
    refine OPS.nil ?_
    exact ⟨(by repeat (first | exact Agree.refl _ _ | exact Agree.mix _ _ _ | refine Agree.upd rfl ?_ | refine Agree.mix2 rfl ?_)), k - 1, by omega, j + 1, by omega, rfl, H⟩
  have hj : j = left.length := by simp at hc25; omega
  subst hj
  rw [List.take_length] at H
  have hcl := cntL_len ns.length (allN rs ++ left)
  refine WP.exit ?_
  refine XB.hit ?_
  refine WP.seq ?_
  refine WP.seq ?_
  refine WP.region ?_
  refine OPS.val rfl rfl rfl (Ev.asI rfl) ?_
  refine OPS.nil ?_
  refine WP.block ?_
  refine WP.loop [4, 14, 161, 162, 163, 164, 165, 166, 167, 168, 169, 170, 171] (fun k e w' => ∃ (j : Nat), j + k = ns.length ∧ e 14 = I j ∧ SH w0 [] w' [⟨g32, 3, (cntL ns.length (allN rs ++ left)).map I⟩, ⟨g3, 45, [.slice P rs.length cp, .slice F left.length cf]⟩, ⟨g2, 28, [I n, .slice A l.length ca, .slice B ts.length cb, .slice C ns.length cc, I hd]⟩]) (ns.length) (⟨0, by omega, rfl, H⟩) ?_
  clear H
  rintro k u w ⟨j, hk, h14, H⟩
  refine WP.know (t := 14) h14 ?_
  refine WP.seq ?_
  refine WP.seq ?_
  refine WP.region ?_
  refine OPS.val rfl rfl rfl (Ev.mvI rfl) ?_
  refine OPS.val rfl rfl rfl (Ev.mvS rfl) ?_
  refine OPS.val rfl rfl rfl (Ev.len (el_run rfl) rfl) ?_
  refine OPS.val rfl rfl rfl (Ev.lss rfl rfl) ?_
  refine OPS.nil ?_
  refine WP.cond rfl (fun hc31 => ?_) (fun hc31 => ?_)
  · have hlt : j < ns.length := by simpa using hc31
    have hcx : w.cell? ⟨g32, 0 + j, none⟩ = some (I 1) := by
      have h := (onesOwn (l := cntL ns.length (allN rs ++ left)) H 0 rfl).atK (k := j) (by omega)
      rw [cntL_one hK.nd hK.good] at h; exact h
    refine WP.skip ?_
    refine WP.seq ?_
    refine WP.block ?_
    refine WP.seq ?_
    refine WP.region ?_
    refine OPS.val rfl rfl rfl (Ev.mvS rfl) ?_
    refine OPS.val rfl rfl rfl (Ev.mvI rfl) ?_
    refine OPS.val rfl rfl rfl ((by first | exact Ev.indexAddr1 (el_run rfl) (size_run rfl) rfl rfl rfl (by omega) | exact Ev.indexAddr (el_run rfl) (size_run rfl) rfl rfl rfl (by omega))) ?_
    refine OPS.val rfl rfl rfl (Ev.load1 (agg_run rfl) rfl (by first | exact H.ldL 0 rfl _ rfl | exact H.ldL 1 rfl _ rfl | exact H.ldL 2 rfl _ rfl | exact H.ldL 3 rfl _ rfl | exact H.ldL 4 rfl _ rfl | exact H.ldL 5 rfl _ rfl | exact H.ldL 6 rfl _ rfl | exact H.ldL 7 rfl _ rfl | exact H.ld0 (by assumption) | assumption | exact H.ldS (by assumption) (by assumption))) ?_
    refine OPS.val rfl rfl rfl (Ev.neq rfl rfl) ?_
    refine OPS.nil ?_
    refine WP.cond rfl (fun hc33 => ?_) (fun hc33 => ?_)
    · refine WP.seq ?_
      refine WP.region ?_
      refine OPS.val rfl rfl rfl (Ev.asB rfl) ?_
      refine OPS.nil ?_
      refine WP.ret ⟨_, rfl, ?_⟩
      exact absurd hc33 (by simp)
    refine WP.skip ?_
    refine WP.region ?_
    refine OPS.val rfl rfl rfl (Ev.mvI rfl) ?_
    refine OPS.val rfl rfl rfl (Ev.add rfl rfl (by unfold fits; omega)) ?_
    refine OPS.val rfl rfl rfl (Ev.asI rfl) ?_
    refine OPS.nil ?_
    exact ⟨(by repeat (first | exact Agree.refl _ _ | exact Agree.mix _ _ _ | refine Agree.upd rfl ?_ | refine Agree.mix2 rfl ?_)), k - 1, by omega, j + 1, by omega, rfl, H⟩
  refine WP.exit ?_
  refine XB.hit ?_
  refine WP.seq ?_
  refine WP.region ?_
  refine OPS.call (d := some 172) rfl rfl rfl (EvC.func (fun_run rfl)) (lawAwake w) ?_
  rintro _ w ⟨rfl, hb⟩
  refine ⟨_, rfl, ?_⟩
  replace H := H.toBelow hb; clear hb
  refine OPS.val rfl rfl rfl (Ev.asB rfl) ?_
  refine OPS.nil ?_
  refine WP.ret ⟨_, rfl, ?_⟩
  exact ⟨rfl, H.below⟩
end Go.Proofs.Ytcgicnfjcndedaa
