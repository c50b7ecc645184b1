/-
  The laws BoundBest, BoundNeeds.
-/
import Derived.Test.YtgjfjbphngamgaaB7
import Derived.Test.YtgjfjbphngamgaaT29
set_option linter.all false
namespace Go.Proofs.Ytgjfjbphngamgaa
open Go Go.W Go.RowKit

set_option maxHeartbeats 1000000 in
theorem lawBest (n hd s2 b2 : Int) (A B C AU2 AV2 : Option Addr) (l : List Edg) (ts : List Truck) (ns : List Need) (us2 vs2 : List Int) (ca cb cc cu2 cv2 : Nat) (w0 : World) (hN : NightAt w0 A B C l ts ns cc) (hU : IntsAt w0 AU2 us2) (hV : IntsAt w0 AV2 vs2) :
    Calls Try.prog 5 #[.agg #[I n, .slice A l.length ca, .slice B ts.length cb, .slice C ns.length cc, I hd], .agg (bndL s2 b2 AU2 us2.length cu2 AV2 vs2.length cv2).toArray] w0 fun e w' => e = .returned (.bool true) ∧ Below w0.heap.size w0 w' := by
  have H := SH.refl w0
  refine Calls.ofWP Try.func5 rfl Try.results5 Try.ntmps5 rfl ?_
  refine WP.seq ?_
  refine WP.region ?_
  refine OPS.box rfl rfl rfl rfl (cA rfl) H ?_
  clear H; intro g2 w H
  refine OPS.box rfl rfl rfl rfl (cA rfl) H ?_
  clear H; intro g3 w H
  refine OPS.val rfl rfl rfl (Ev.asB rfl) ?_
  refine OPS.nil ?_
  refine WP.seq ?_
  refine WP.seq ?_
  refine WP.region ?_
  refine OPS.val rfl rfl rfl ((by exact Ev.loadO 1 H rfl (agg_run rfl) (size_run rfl) (by rfl) rfl)) ?_
  refine OPS.call (d := some 8) rfl rfl rfl (EvC.func (fun_run rfl)) (r42Few n hd A B C l.length ts.length ns.length ca cb cc w) ?_
  rintro _ w ⟨rfl, hb⟩
  refine ⟨_, rfl, ?_⟩
  replace H := H.toBelow hb; clear hb
  refine OPS.val rfl rfl rfl (Ev.not rfl) ?_
  refine OPS.val rfl rfl rfl (Ev.mvB rfl) ?_
  refine OPS.gval rfl rfl rfl rfl rfl (fun hg => (by exact Ev.loadO 0 H rfl (agg_run rfl) (size_run rfl) (by rfl) rfl)) ?_
  refine OPS.gcall0 (f := 15) (r44Short s2 b2 AU2 AV2 us2.length cu2 vs2.length cv2 w) (fun _ _ h => h) rfl rfl rfl rfl rfl (fun hg => EvC.conv (EvC.func (fun_run rfl)) (l1 (by exact gvE hg rfl))) ?_
  intro w hbc; replace H := H.toBelow hbc
  refine OPS.gval rfl rfl rfl rfl rfl (fun hg => Ev.not (by exact gvE hg rfl)) ?_
  refine OPS.val rfl rfl rfl ((by exact Ev.pickOr rfl rfl rfl)) ?_
  refine OPS.nil ?_
  refine WP.cond rfl (fun hc1 => ?_) (fun hc1 => ?_)
  · refine WP.seq ?_
    refine WP.region ?_
    refine OPS.call (d := some 15) rfl rfl rfl (EvC.func (fun_run rfl)) (lawAwakeB w) ?_
    rintro _ w ⟨rfl, hb⟩
    refine ⟨_, rfl, ?_⟩
    replace H := H.toBelow hb; clear hb
    refine OPS.val rfl rfl rfl (Ev.asB rfl) ?_
    refine OPS.nil ?_
    refine WP.ret ⟨_, rfl, ?_⟩
    exact ⟨rfl, H.below⟩
  obtain ⟨_, hs1, hs2⟩ : fewB l.length ts.length ns.length = true ∧ us2.length ≤ 50 ∧ vs2.length ≤ 50 := by simpa using hc1
  refine WP.skip ?_
  refine WP.seq ?_
  refine WP.region ?_
  refine OPS.val rfl rfl rfl ((by exact Ev.loadO 1 H rfl (agg_run rfl) (size_run rfl) (by rfl) rfl)) ?_
  refine OPS.call (d := some 18) rfl rfl rfl (EvC.func (fun_run rfl)) (boundFind n hd A B C l ts ns ca cb cc w (hN.sh H)) ?_
  rintro _ w ⟨s, b, us, vs, AU, AV, cu, cv, L, rfl, hF, hrd, Hc⟩
  refine ⟨_, rfl, ?_⟩
  replace H := H.toBelow Hc.below
  clear Hc
  refine OPS.val rfl rfl rfl (Ev.mvT rfl) ?_
  refine OPS.val rfl rfl rfl (Ev.extract rfl rfl) ?_
  refine OPS.val rfl rfl rfl (Ev.extract rfl rfl) ?_
  refine OPS.alloc rfl rfl rfl rfl (zero_run rfl) rfl H ?_
  clear H; intro g5 w H
  refine OPS.store 0 _ rfl rfl rfl (size_run rfl) rfl (cA rfl) rfl rfl H rfl (by simp) ?_
  clear H; intro w H; try simp only [List.set_cons_zero, List.set_cons_succ, putL, Nat.zero_add] at H
  refine OPS.val rfl rfl rfl (Ev.asI rfl) ?_
  refine OPS.nil ?_
  refine WP.seq ?_
  refine WP.seq ?_
  refine WP.region ?_
  refine OPS.val rfl rfl rfl (Ev.mvI rfl) ?_
  refine OPS.val rfl rfl rfl (Ev.neq rfl rfl) ?_
  refine OPS.nil ?_
  refine WP.cond rfl (fun hc4 => ?_) (fun hc4 => ?_)
  · have hne : findErr n l ts ns hd ≠ 0 := by simpa using hc4
    refine WP.seq ?_
    refine WP.region ?_
    refine OPS.val rfl rfl rfl ((by exact Ev.loadO 2 H rfl (agg_run rfl) (size_run rfl) (by rfl) rfl)) ?_
    refine OPS.val rfl rfl rfl ((by exact Ev.loadO 1 H rfl (agg_run rfl) (size_run rfl) (by rfl) rfl)) ?_
    refine OPS.call (d := some 25) rfl rfl rfl (EvC.func (fun_run rfl)) (provedF n hd s2 b2 A B C AU2 AV2 l ts ns us2 vs2 ca cb cc cu2 cv2 w (hN.sh H) (hU.sh H) (hV.sh H) (by omega) (by omega) (fun hp => hne hp.err)) ?_
    rintro _ w ⟨rfl, hb⟩
    refine ⟨_, rfl, ?_⟩
    replace H := H.toBelow hb; clear hb
    refine OPS.val rfl rfl rfl (Ev.not rfl) ?_
    refine OPS.val rfl rfl rfl (Ev.mvB rfl) ?_
    refine OPS.gcall0 (f := 10) (lawAwakeB w) (fun _ _ h => h) rfl rfl rfl rfl rfl (fun hg => (EvC.func (fun_run rfl))) ?_
    intro w hbc; replace H := H.toBelow hbc
    refine OPS.val rfl rfl rfl ((by exact Ev.pickAnd rfl rfl rfl)) ?_
    refine OPS.val rfl rfl rfl (Ev.asB rfl) ?_
    refine OPS.nil ?_
    refine WP.ret ⟨_, rfl, ?_⟩
    exact ⟨rfl, H.below⟩
  refine WP.skip ?_
  refine WP.seq ?_
  refine WP.region ?_
  refine OPS.val rfl rfl rfl ((by exact Ev.loadO 2 H rfl (agg_run rfl) (size_run rfl) (by rfl) rfl)) ?_
  refine OPS.val rfl rfl rfl ((by exact Ev.loadO 1 H rfl (agg_run rfl) (size_run rfl) (by rfl) rfl)) ?_
  refine OPS.call (d := some 32) rfl rfl rfl (EvC.func (fun_run rfl)) (boundProved n hd s2 b2 A B C AU2 AV2 l ts ns us2 vs2 ca cb cc cu2 cv2 w (hN.sh H) (hU.sh H) (hV.sh H) (by omega) (by omega)) ?_
  rintro _ w ⟨r, rfl, hr, hb⟩
  refine ⟨_, rfl, ?_⟩
  replace H := H.toBelow hb; clear hb
  refine OPS.val rfl rfl rfl (Ev.not rfl) ?_
  refine OPS.val rfl rfl rfl (Ev.mvB rfl) ?_
  refine OPS.gval rfl rfl rfl rfl rfl (fun hg => Ev.fieldAddr (fld_run rfl) (by rfl)) ?_
  refine OPS.gval rfl rfl rfl rfl rfl (fun hg => Ev.load1 (agg_run rfl) (by exact gvE hg rfl) (by exact H.ldL 1 rfl _ rfl)) ?_
  refine OPS.gval rfl rfl rfl rfl rfl (fun hg => Ev.fieldAddr (fld_run rfl) (by rfl)) ?_
  refine OPS.gval rfl rfl rfl rfl rfl (fun hg => Ev.load1 (agg_run rfl) (by exact gvE hg rfl) (by exact H.ldL 0 rfl _ rfl)) ?_
  refine OPS.gval rfl rfl rfl rfl rfl (fun hg => Ev.leq (by exact gvE hg rfl) (by exact gvE hg rfl)) ?_
  refine OPS.val rfl rfl rfl ((by exact Ev.pickOr rfl rfl rfl)) ?_
  refine OPS.val rfl rfl rfl (Ev.mvB rfl) ?_
  refine OPS.gcall0 (f := 10) (lawAwakeB w) (fun _ _ h => h) rfl rfl rfl rfl rfl (fun hg => (EvC.func (fun_run rfl))) ?_
  intro w hbc; replace H := H.toBelow hbc
  refine OPS.val rfl rfl rfl ((by exact Ev.pickAnd rfl rfl rfl)) ?_
  refine OPS.val rfl rfl rfl (Ev.asB rfl) ?_
  refine OPS.nil ?_
  refine WP.ret ⟨_, rfl, ?_⟩
  have hv : ((!r || decide (s2 ≤ s)) && true) = true := by
    cases r with
    | false => rfl
    | true => simp [best_le hF (hr.1 rfl)]
  exact ⟨ret_true rfl hv, H.below⟩
/-! ### a further need that brings -/
theorem colN_app {ns : List Need} {x : Need} (hx : x.move ≤ 0) : colN (ns ++ [x]) = colN ns := by
  unfold colN; rw [List.filter_append]; simp; omega
theorem briN_app {ns : List Need} {x : Need} (hx : x.move ≤ 0) : briN (ns ++ [x]) = briN ns ++ [x] := by
  unfold briN; rw [List.filter_append]; simp; omega
theorem findErr_night {n hd : Int} {l : List Edg} {ts : List Truck} {ns : List Need} (h : findErr n l ts ns hd = 0) : ∃ m : Nat, n = m ∧ NightOk m l ts ns hd ∧ emptyB (capL ts) (movC ns).sum (movD ns).sum = false ∧ Flo.Hall (movC ns) (movD ns) (timL m l ns) := by
  unfold findErr at h
  split at h
  · rename_i h1; exact absurd h h1
  · rename_i h1
    obtain ⟨m, rfl, hK⟩ := nightOk_of (by simpa using h1)
    unfold solveErr at h
    split at h
    · cases h
    · rename_i h2
      split at h
      · rename_i h3; exact ⟨m, rfl, hK, by simpa using h2, by simpa using h3⟩
      · cases h
theorem findErr_ok {m : Nat} {hd : Int} {l : List Edg} {ts : List Truck} {ns : List Need} (hK : NightOk m l ts ns hd) (h1 : emptyB (capL ts) (movC ns).sum (movD ns).sum = false) (h2 : Flo.Hall (movC ns) (movD ns) (timL m l ns)) : findErr m l ts ns hd = 0 := by
  rw [findErr, if_neg (by simp [nightErr_good hK]), solveErr, if_neg (by rw [h1]; simp), if_pos (by simpa using h2)]
theorem NightOk.less {m : Nat} {l : List Edg} {ts : List Truck} {ns : List Need} {x : Need} {hd : Int} (h : NightOk m l ts (ns ++ [x]) hd) : NightOk m l ts ns hd :=
  ⟨h.road, h.tl, by have := h.nl; simp at this; omega, h.tr, fun y hy => h.nd y (List.mem_append_left _ hy), h.hh, by have := h.one; rw [List.map_append] at this; exact (List.nodup_append.1 this).1⟩
theorem needs_more {n hd s b s' b' : Int} {l : List Edg} {ts : List Truck} {ns : List Need} {x : Need} {us vs us' vs' : List Int} (hx : x.move ≤ 0) (h : FindRet n l ts ns hd s b us vs) (h' : FindRet n l ts (ns ++ [x]) hd s' b' us' vs') (he' : findErr n l ts (ns ++ [x]) hd = 0) :
    findErr n l ts ns hd = 0 ∧ s ≤ s' ∧ b' = b - x.move := by
  obtain ⟨m, rfl, hK', hem', hH'⟩ := findErr_night he'
  have hK := hK'.less
  have hxm := hK'.nd x (by simp)
  have eC : movC (ns ++ [x]) = movC ns := by unfold movC; rw [colN_app hx]
  have eD : movD (ns ++ [x]) = movD ns ++ [-x.move] := by unfold movD; rw [briN_app hx, List.map_append]; rfl
  have hX := trans_ok hK
  have hDl : (movD ns).length = (briN ns).length := by simp [movD]
  have hsum : (movD (ns ++ [x])).sum = (movD ns).sum - x.move := by rw [eD, List.sum_append]; simp; omega
  rw [eC] at hem' hH'
  -- prices of the old night, with the new need at 0
  have hext : ∀ (w : Int) (u v : Nat → Int), 0 ≤ w → (∀ j, 0 ≤ u j) → Flo.Feas w (timL m l ns) u v → Flo.Feas w (timL m l (ns ++ [x])) u (fun k => if k < (briN ns).length then v k else 0) := fun w u v hw hu hF j k y hy hy0 => by
    obtain ⟨hj, hk, rfl⟩ := timL_at hy
    have hj2 : j < (colN ns).length := by rw [colN_app hx] at hj; exact hj
    have ej : (colN (ns ++ [x]))[j] = (colN ns)[j] := by simp only [colN_app hx]
    by_cases hkb : k < (briN ns).length
    · have ek : (briN (ns ++ [x]))[k] = (briN ns)[k] := by simp only [briN_app hx]; rw [List.getElem_append_left hkb]
      rw [ej, ek] at hy0 ⊢
      simp only [hkb, if_true]
      exact hF j k _ (timL_some hj2 hkb) hy0
    · simp only [hkb, if_false]
      have := hu j
      have := Int.mul_nonneg hw hy0
      omega
  have hval : ∀ v : Nat → Int, Flo.dn (movD (ns ++ [x])) (fun k => if k < (briN ns).length then v k else 0) = Flo.dn (movD ns) v := fun v => by
    rw [eD, dn_app, Flo.dn_congr (v := v) (fun k hk => if_pos (by omega)), hDl, if_neg (by omega)]; omega
  have hH : Flo.Hall (movC ns) (movD ns) (timL m l ns) := fun u v hu hF => by
    have := hH' u _ hu (hext 0 u v (Int.le_refl _) hu hF)
    rw [hval] at this; exact this
  have hem : emptyB (capL ts) (movC ns).sum (movD ns).sum = false := by
    unfold emptyB at hem' ⊢
    rw [hsum] at hem'
    simp at hem' ⊢; omega
  have he := findErr_ok hK hem hH
  obtain ⟨m1, T, hm1, _, hS, h1, h2, h3⟩ := h.good he
  obtain ⟨m2, T', hm2, _, hS', h1', h2', h3'⟩ := h'.good he'
  obtain rfl : m = m1 := by omega
  obtain rfl : m = m2 := by omega
  refine ⟨he, ?_, by rw [h2, h2', hsum]⟩
  rw [h1, h1']
  refine divI_le ?_ h3
  obtain ⟨⟨u, v, hu, hF, hT⟩, _⟩ := hS.max
  have hmx := hS'.max.2 u _ hu (hext 1 u v (by omega) hu hF)
  rw [hval, eC] at hmx
  omega
set_option maxRecDepth 20000 in
set_option maxHeartbeats 1000000 in
theorem lawNeeds (n hd node mv : Int) (A B C : Option Addr) (l : List Edg) (ts : List Truck) (ns : List Need) (ca cb cc : Nat) (w0 : World) (hN : NightAt w0 A B C l ts ns cc) (hmf : -9223372036854775808 ≤ mv) :
    Calls Try.prog 7 #[.agg #[I n, .slice A l.length ca, .slice B ts.length cb, .slice C ns.length cc, I hd], I node, I mv] w0 fun e w' => e = .returned (.bool true) ∧ Below w0.heap.size w0 w' := by
  have H := SH.refl w0
  refine Calls.ofWP Try.func7 rfl Try.results7 Try.ntmps7 rfl ?_
  refine WP.seq ?_
  refine WP.region ?_
  refine OPS.box rfl rfl rfl rfl (cA rfl) H ?_
  clear H; intro g3 w H
  refine OPS.val rfl rfl rfl (Ev.asB rfl) ?_
  refine OPS.nil ?_
  refine WP.seq ?_
  refine WP.seq ?_
  refine WP.region ?_
  refine OPS.val rfl rfl rfl ((by exact Ev.loadO 0 H rfl (agg_run rfl) (size_run rfl) (by rfl) rfl)) ?_
  refine OPS.call (d := some 13) rfl rfl rfl (EvC.func (fun_run rfl)) (r42Few n hd A B C l.length ts.length ns.length ca cb cc w) ?_
  rintro _ w ⟨rfl, hb⟩
  refine ⟨_, rfl, ?_⟩
  replace H := H.toBelow hb; clear hb
  refine OPS.val rfl rfl rfl (Ev.not rfl) ?_
  refine OPS.val rfl rfl rfl (Ev.mvB rfl) ?_
  refine OPS.gval rfl rfl rfl rfl rfl (fun hg => Ev.mvI (by rfl)) ?_
  refine OPS.gval rfl rfl rfl rfl rfl (fun hg => Ev.gtr (by exact gvE hg rfl) (by rfl)) ?_
  refine OPS.val rfl rfl rfl ((by exact Ev.pickOr rfl rfl rfl)) ?_
  refine OPS.nil ?_
  refine WP.cond rfl (fun hc1 => ?_) (fun hc1 => ?_)
  · refine WP.seq ?_
    refine WP.region ?_
    refine OPS.call (d := some 19) rfl rfl rfl (EvC.func (fun_run rfl)) (lawAwakeB w) ?_
    rintro _ w ⟨rfl, hb⟩
    refine ⟨_, rfl, ?_⟩
    replace H := H.toBelow hb; clear hb
    refine OPS.val rfl rfl rfl (Ev.asB rfl) ?_
    refine OPS.nil ?_
    refine WP.ret ⟨_, rfl, ?_⟩
    exact ⟨rfl, H.below⟩
  obtain ⟨hfw, hmv⟩ : fewB l.length ts.length ns.length = true ∧ mv ≤ 0 := by simpa using hc1
  have hfew := fewB_ok hfw
  refine WP.skip ?_
  refine WP.seq ?_
  refine WP.region ?_
  refine OPS.val rfl rfl rfl ((by exact Ev.loadO 0 H rfl (agg_run rfl) (size_run rfl) (by rfl) rfl)) ?_
  refine OPS.call (d := some 22) rfl rfl rfl (EvC.func (fun_run rfl)) (boundFind n hd A B C l ts ns ca cb cc w (hN.sh H)) ?_
  rintro _ w ⟨s, b, us, vs, AU, AV, cu, cv, L, rfl, hF, hrd, Hc⟩
  refine ⟨_, rfl, ?_⟩
  replace H := H.toBelow Hc.below
  clear Hc
  refine OPS.val rfl rfl rfl (Ev.mvT rfl) ?_
  refine OPS.val rfl rfl rfl (Ev.extract rfl rfl) ?_
  refine OPS.val rfl rfl rfl (Ev.extract rfl rfl) ?_
  refine OPS.alloc rfl rfl rfl rfl (zero_run rfl) rfl H ?_
  clear H; intro g7 w H
  refine OPS.store 0 _ rfl rfl rfl (size_run rfl) rfl (cA rfl) rfl rfl H rfl (by simp) ?_
  clear H; intro w H; try simp only [List.set_cons_zero, List.set_cons_succ, putL, Nat.zero_add] at H
  refine OPS.val rfl rfl rfl (Ev.asI rfl) ?_
  refine OPS.nil ?_
  replace H : SH w0 [] w [⟨g7, 33, bndL s b AU us.length cu AV vs.length cv⟩, ⟨g3, 28, [I n, .slice A l.length ca, .slice B ts.length cb, .slice C ns.length cc, I hd]⟩] := H
  refine WP.seq ?_
  refine WP.region ?_
  refine OPS.val rfl rfl rfl ((by exact Ev.loadO 1 H rfl (agg_run rfl) (size_run rfl) (by rfl) rfl)) ?_
  refine OPS.alloc rfl rfl rfl rfl (zero_run rfl) rfl H ?_
  clear H; intro g9 w H
  refine OPS.store 0 _ rfl rfl rfl (size_run rfl) rfl (cA rfl) rfl rfl H rfl (by simp) ?_
  clear H; intro w H; try simp only [List.set_cons_zero, List.set_cons_succ, putL, Nat.zero_add] at H
  refine OPS.nil ?_
  refine WP.seq ?_
  refine WP.region ?_
  refine OPS.buildSlice rfl rfl rfl rfl (bsl_26_0_ (e := fun _ => .int .i64 0)) H ?_
  clear H; intro g26 w H
  refine OPS.val rfl rfl rfl (Ev.fieldAddr (fld_run rfl) rfl) ?_
  refine OPS.val rfl rfl rfl (Ev.load1 (agg_run rfl) rfl (by exact H.ldL 3 rfl _ rfl)) ?_
  refine OPS.appendE (m := ns.length) (news := ns.flatMap needCells) (R := [⟨g9, 28, [I n, .slice A l.length ca, .slice B ts.length cb, .slice C ns.length cc, I hd]⟩, ⟨g7, 33, bndL s b AU us.length cu AV vs.length cv⟩, ⟨g3, 28, [I n, .slice A l.length ca, .slice B ts.length cb, .slice C ns.length cc, I hd]⟩]) rfl rfl rfl rfl rfl (sl_run rfl) rfl rfl (OwnS.empty (g := g26)) (rows_length needCells_len ns) (rowsSrc needCells_len (hN.sh H).n) (rows_one (fun _ => rfl) ns) (by omega) (by unfold maxLen; omega) H (by exact perm_by fun f => by simp [I] <;> omega) ?_
  clear H; intro NA nc LN w hON H
  rw [Nat.zero_add, List.nil_append] at hON
  rw [show 0 + ns.length = ns.length from Nat.zero_add _]
  refine OPS.val rfl rfl rfl (Ev.mvI rfl) ?_
  refine OPS.val rfl rfl rfl (Ev.mvI rfl) ?_
  refine OPS.val rfl rfl rfl (Ev.build (bld_48_0_1 rfl rfl)) ?_
  refine OPS.buildSlice rfl rfl rfl rfl (bsl_26_1_0 rfl) H ?_
  clear H; intro g33 w H
  refine OPS.append (m := 1) (news := needCells ⟨node, mv⟩) (R := [⟨g33, 48, [I node, I mv]⟩, ⟨g9, 28, [I n, .slice A l.length ca, .slice B ts.length cb, .slice C ns.length cc, I hd]⟩, ⟨g7, 33, bndL s b AU us.length cu AV vs.length cv⟩, ⟨g3, 28, [I n, .slice A l.length ca, .slice B ts.length cb, .slice C ns.length cc, I hd]⟩]) rfl rfl rfl rfl rfl (sl_run rfl) rfl rfl hON rfl (src_own H 0 rfl) rfl (by omega) (by unfold maxLen; omega) H (List.Perm.refl _) ?_
  clear H hON; intro NA nc LN w hON H
  simp only [List.cons_append, List.nil_append] at H
  refine OPS.val rfl rfl rfl (Ev.fieldAddr (fld_run rfl) rfl) ?_
  refine OPS.store 1 _ rfl rfl rfl (size_run rfl) rfl (cS rfl) rfl rfl H rfl (by simp) ?_
  clear H; intro w H; try simp only [List.set_cons_zero, List.set_cons_succ, putL, Nat.zero_add] at H
  refine OPS.nil ?_
  have hlen : (ns ++ [(⟨node, mv⟩ : Need)]).length = ns.length + 1 := by simp
  replace hON : OwnS NA nc (ns ++ [(⟨node, mv⟩ : Need)]).length ((ns ++ [(⟨node, mv⟩ : Need)]).flatMap needCells) 48 2 LN := by rw [hlen, List.flatMap_append, List.flatMap_cons, List.flatMap_nil, List.append_nil]; exact hON
  have hN2 : ∀ w, SH w0 [] w ([⟨g33, 48, [I node, I mv]⟩, ⟨g9, 28, [I n, .slice A l.length ca, .slice B ts.length cb, .slice NA (ns.length + 1) nc, I hd]⟩, ⟨g7, 33, bndL s b AU us.length cu AV vs.length cv⟩, ⟨g3, 28, [I n, .slice A l.length ca, .slice B ts.length cb, .slice C ns.length cc, I hd]⟩] ++ LN) → NightAt w A B NA l ts (ns ++ [⟨node, mv⟩]) nc := fun w H =>
    ⟨(hN.sh H).l, (hN.sh H).t, (hON.rows needCells_len (by decide) H).1, hON.le⟩
  have hfind := boundFind n hd A B NA l ts (ns ++ [⟨node, mv⟩]) ca cb nc w (hN2 w H)
  rw [hlen] at hfind
  refine WP.seq ?_
  refine WP.region ?_
  refine OPS.val rfl rfl rfl ((by exact Ev.loadO 1 H rfl (agg_run rfl) (size_run rfl) (by rfl) rfl)) ?_
  refine OPS.call (d := some 38) rfl rfl rfl (EvC.func (fun_run rfl)) (hfind) ?_
  rintro _ w ⟨s', b', us', vs', AU', AV', cu', cv', L', rfl, hF', hrd', Hc⟩
  refine ⟨_, rfl, ?_⟩
  replace H := H.toBelow Hc.below
  clear Hc hfind
  refine OPS.val rfl rfl rfl (Ev.mvT rfl) ?_
  refine OPS.val rfl rfl rfl (Ev.extract rfl rfl) ?_
  refine OPS.val rfl rfl rfl (Ev.extract rfl rfl) ?_
  refine OPS.alloc rfl rfl rfl rfl (zero_run rfl) rfl H ?_
  clear H; intro g10 w H
  refine OPS.store 0 _ rfl rfl rfl (size_run rfl) rfl (cA rfl) rfl rfl H rfl (by simp) ?_
  clear H; intro w H; try simp only [List.set_cons_zero, List.set_cons_succ, putL, Nat.zero_add] at H
  refine OPS.val rfl rfl rfl (Ev.asI rfl) ?_
  refine OPS.nil ?_
  refine WP.seq ?_
  refine WP.seq ?_
  refine WP.region ?_
  refine OPS.val rfl rfl rfl (Ev.mvI rfl) ?_
  refine OPS.val rfl rfl rfl (Ev.neq rfl rfl) ?_
  refine OPS.nil ?_
  refine WP.cond rfl (fun hc7 => ?_) (fun hc7 => ?_)
  · refine WP.seq ?_
    refine WP.region ?_
    refine OPS.call (d := some 43) rfl rfl rfl (EvC.func (fun_run rfl)) (lawAwakeB w) ?_
    rintro _ w ⟨rfl, hb⟩
    refine ⟨_, rfl, ?_⟩
    replace H := H.toBelow hb; clear hb
    refine OPS.val rfl rfl rfl (Ev.asB rfl) ?_
    refine OPS.nil ?_
    refine WP.ret ⟨_, rfl, ?_⟩
    exact ⟨rfl, H.below⟩
  have he' : findErr n l ts (ns ++ [⟨node, mv⟩]) hd = 0 := by simpa using hc7
  obtain ⟨he, hle, hbb⟩ := needs_more hmv hF hF' he'
  have hbf : 0 ≤ b ∧ b ≤ 512 := by
    obtain ⟨m1, T, hm1, hK1, hS, h1, h2, h3⟩ := hF.good he
    have := (trans_ok hK1).dsum
    omega
  have hmv2 : -32 ≤ mv := by
    obtain ⟨m1, T, hm1, hK1, _⟩ := hF'.good he'
    exact (hK1.nd ⟨node, mv⟩ (by simp)).2.2.1
  refine WP.skip ?_
  refine WP.seq ?_
  refine WP.region ?_
  refine OPS.val rfl rfl rfl (Ev.mvI rfl) ?_
  refine OPS.val rfl rfl rfl (Ev.eql rfl rfl) ?_
  refine OPS.val rfl rfl rfl (Ev.mvB rfl) ?_
  refine OPS.gval rfl rfl rfl rfl rfl (fun hg => Ev.fieldAddr (fld_run rfl) (by rfl)) ?_
  refine OPS.gval rfl rfl rfl rfl rfl (fun hg => Ev.load1 (agg_run rfl) (by exact gvE hg rfl) (by exact H.ldL 0 rfl _ rfl)) ?_
  refine OPS.gval rfl rfl rfl rfl rfl (fun hg => Ev.fieldAddr (fld_run rfl) (by rfl)) ?_
  refine OPS.gval rfl rfl rfl rfl rfl (fun hg => Ev.load1 (agg_run rfl) (by exact gvE hg rfl) (by exact H.ldL 3 rfl _ rfl)) ?_
  refine OPS.gval rfl rfl rfl rfl rfl (fun hg => Ev.geq (by exact gvE hg rfl) (by exact gvE hg rfl)) ?_
  refine OPS.val rfl rfl rfl ((by exact Ev.pickAnd rfl rfl rfl)) ?_
  refine OPS.val rfl rfl rfl (Ev.mvB rfl) ?_
  refine OPS.gval rfl rfl rfl rfl rfl (fun hg => Ev.fieldAddr (fld_run rfl) (by rfl)) ?_
  refine OPS.gval rfl rfl rfl rfl rfl (fun hg => Ev.load1 (agg_run rfl) (by exact gvE hg rfl) (by exact H.ldL 0 rfl _ rfl)) ?_
  refine OPS.gval rfl rfl rfl rfl rfl (fun hg => Ev.fieldAddr (fld_run rfl) (by rfl)) ?_
  refine OPS.gval rfl rfl rfl rfl rfl (fun hg => Ev.load1 (agg_run rfl) (by exact gvE hg rfl) (by exact H.ldL 3 rfl _ rfl)) ?_
  refine OPS.gval rfl rfl rfl rfl rfl (fun hg => Ev.mvI (by rfl)) ?_
  refine OPS.gval rfl rfl rfl rfl rfl (fun hg => Ev.sub (by exact gvE hg rfl) (by exact gvE hg rfl) (by unfold fits; omega)) ?_
  refine OPS.gval rfl rfl rfl rfl rfl (fun hg => Ev.eql (by exact gvE hg rfl) (by exact gvE hg rfl)) ?_
  refine OPS.val rfl rfl rfl ((by exact Ev.pickAnd rfl rfl rfl)) ?_
  refine OPS.val rfl rfl rfl (Ev.mvB rfl) ?_
  refine OPS.gcall0 (f := 10) (lawAwakeB w) (fun _ _ h => h) rfl rfl rfl rfl rfl (fun hg => (EvC.func (fun_run rfl))) ?_
  intro w hbc; replace H := H.toBelow hbc
  refine OPS.val rfl rfl rfl ((by exact Ev.pickAnd rfl rfl rfl)) ?_
  refine OPS.val rfl rfl rfl (Ev.asB rfl) ?_
  refine OPS.nil ?_
  refine WP.ret ⟨_, rfl, ?_⟩
  have hv : (((decide (findErr n l ts ns hd = 0)) && decide (s ≤ s') && decide (b' = b - mv)) && true) = true := by simp [he, hle, hbb]
  exact ⟨ret_true rfl hv, H.below⟩
end Go.Proofs.Ytgjfjbphngamgaa
