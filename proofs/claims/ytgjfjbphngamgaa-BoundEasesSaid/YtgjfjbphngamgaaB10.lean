/-
  The law BoundEases.
-/
import Derived.Test.YtgjfjbphngamgaaB9
set_option linter.all false
namespace Go.Proofs.Ytgjfjbphngamgaa
open Go Go.W Go.RowKit

theorem capL_app (ts : List Truck) (t : Truck) : capL (ts ++ [t]) = if capL ts < t.cap then t.cap else capL ts := by unfold capL; rw [List.foldl_append]; rfl
theorem divI_cap {T c c' : Int} (h : 1 ≤ c) (hc : c ≤ c') : divI T c' ≤ divI T c := by
  unfold divI
  by_cases hT : T ≤ 0
  · rw [if_pos hT, if_pos hT]; exact Int.le_refl _
  · rw [if_neg hT, if_neg hT]
    have h1 : T + c - 1 < ((T + c - 1) / c + 1) * c := Int.lt_ediv_add_one_mul_self _ (by omega)
    have hq : 0 ≤ (T + c - 1) / c := Int.ediv_nonneg (by omega) (by omega)
    generalize (T + c - 1) / c = q at *
    rw [Int.add_mul, Int.one_mul] at h1
    have h2 : q * c ≤ q * c' := Int.mul_le_mul_of_nonneg_left hc hq
    have h3 : (T + c' - 1) / c' < q + 1 := Int.ediv_lt_of_lt_mul (by omega) (by rw [Int.add_mul, Int.one_mul]; omega)
    omega
theorem ease_truck {n hd s b s' b' : Int} {l : List Edg} {ts : List Truck} {ns : List Need} {t : Truck} {us vs us' vs' : List Int} (h : FindRet n l ts ns hd s b us vs) (he : findErr n l ts ns hd = 0) (h' : FindRet n l (ts ++ [t]) ns hd s' b' us' vs') (hn : nightErr n l (ts ++ [t]) ns hd = 0) :
    findErr n l (ts ++ [t]) ns hd = 0 ∧ s' ≤ s ∧ b' = b := by
  obtain ⟨m, rfl, hK, hem, hH⟩ := findErr_night he
  obtain ⟨m', hm', hK'⟩ := nightOk_of hn
  obtain rfl : m = m' := by omega
  have hcp : capL ts ≤ capL (ts ++ [t]) := by rw [capL_app]; split <;> omega
  have hcb := capL_bd hK
  have he' := findErr_ok hK' (by unfold emptyB at hem ⊢; simp at hem ⊢; omega) hH
  obtain ⟨m1, T, hm1, _, hS, h1, h2, h3⟩ := h.good he
  obtain ⟨m2, T', hm2, _, hS', h1', h2', h3'⟩ := h'.good he'
  obtain rfl : m = m1 := by omega
  obtain rfl : m = m2 := by omega
  obtain rfl : T = T' := hS.max.unique hS'.max
  exact ⟨he', by rw [h1, h1']; exact divI_cap h3 hcp, by rw [h2, h2']⟩
theorem ease_edge {n hd s b s' b' : Int} {l : List Edg} {ts : List Truck} {ns : List Need} {e : Edg} {us vs us' vs' : List Int} (h : FindRet n l ts ns hd s b us vs) (he : findErr n l ts ns hd = 0) (h' : FindRet n (l ++ [e]) ts ns hd s' b' us' vs') (hn : nightErr n (l ++ [e]) ts ns hd = 0) :
    findErr n (l ++ [e]) ts ns hd = 0 ∧ s' ≤ s ∧ b' = b := by
  obtain ⟨m, rfl, hK, hem, hH⟩ := findErr_night he
  obtain ⟨m', hm', hK'⟩ := nightOk_of hn
  obtain rfl : m = m' := by omega
  have hfeas : ∀ (w : Int) (u v : Nat → Int), 0 ≤ w → Flo.Feas w (timL m (l ++ [e]) ns) u v → Flo.Feas w (timL m l ns) u v := fun w u v hw hF j k x hx hx0 => by
    obtain ⟨hj, hk, rfl⟩ := timL_at hx
    have a1 := hK.nd (colN ns)[j] (List.mem_filter.1 (List.getElem_mem hj)).1
    have a2 := hK.nd (briN ns)[k] (List.mem_filter.1 (List.getElem_mem hk)).1
    obtain ⟨q1, q2⟩ := roadT_more hK.road hK'.road (show (colN ns)[j].node.toNat < m by omega) (show (briN ns)[k].node.toNat < m by omega) edgeAt_app hx0
    have h3 := hF j k _ (timL_some hj hk) q1
    have h4 := Int.mul_le_mul_of_nonneg_left q2 hw
    omega
  have hH' : Flo.Hall (movC ns) (movD ns) (timL m (l ++ [e]) ns) := fun u v hu hF => hH u v hu (hfeas 0 u v (Int.le_refl _) hF)
  have he' := findErr_ok hK' hem hH'
  obtain ⟨m1, T, hm1, _, hS, h1, h2, h3⟩ := h.good he
  obtain ⟨m2, T', hm2, _, hS', h1', h2', h3'⟩ := h'.good he'
  obtain rfl : m = m1 := by omega
  obtain rfl : m = m2 := by omega
  refine ⟨he', ?_, by rw [h2, h2']⟩
  rw [h1, h1']
  refine divI_le ?_ h3
  obtain ⟨⟨u, v, hu, hF, hT⟩, _⟩ := hS'.max
  have := hS.max.2 u v hu (hfeas 1 u v (by omega) hF)
  omega
set_option maxRecDepth 20000 in
set_option maxHeartbeats 4000000 in
theorem lawEasesB (n hd : Int) (A B C : Option Addr) (l : List Edg) (ts : List Truck) (ns : List Need) (tk : Truck) (ed : Edg) (ca cb cc : Nat) (w0 : World) (hN : NightAt w0 A B C l ts ns cc) :
    Calls Try.prog 6 #[.agg #[I n, .slice A l.length ca, .slice B ts.length cb, .slice C ns.length cc, I hd], .agg #[I tk.depot, I tk.cap, I tk.from_, I tk.to_], .agg #[I ed.f, I ed.t, I ed.secs]] w0 fun e w' => e = .returned (.bool true) ∧ Below w0.heap.size w0 w' := by
  have H := SH.refl w0
  refine Calls.ofWP Try.func6 rfl Try.results6 Try.ntmps6 rfl ?_
  refine WP.seq ?_
  refine WP.region ?_
  refine OPS.box rfl rfl rfl rfl (cA rfl) H ?_
  clear H; intro g3 w H
  refine OPS.box rfl rfl rfl rfl (cA rfl) H ?_
  clear H; intro g4 w H
  refine OPS.box rfl rfl rfl rfl (cA rfl) H ?_
  clear H; intro g5 w H
  refine OPS.val rfl rfl rfl (Ev.asB rfl) ?_
  refine OPS.nil ?_
  refine WP.seq ?_
  refine WP.seq ?_
  refine WP.region ?_
  refine OPS.val rfl rfl rfl ((by exact Ev.loadO 2 H rfl (agg_run rfl) (size_run rfl) (by rfl) rfl)) ?_
  refine OPS.call (d := some 16) rfl rfl rfl (EvC.func (fun_run rfl)) (r42Few n hd A B C l.length ts.length ns.length ca cb cc w) ?_
  rintro _ w ⟨rfl, hb⟩
  refine ⟨_, rfl, ?_⟩
  replace H := H.toBelow hb; clear hb
  refine OPS.val rfl rfl rfl (Ev.not rfl) ?_
  refine OPS.nil ?_
  refine WP.cond rfl (fun hc1 => ?_) (fun hc1 => ?_)
  · refine WP.seq ?_
    refine WP.region ?_
    refine OPS.call (d := some 18) rfl rfl rfl (EvC.func (fun_run rfl)) (lawAwakeB w) ?_
    rintro _ w ⟨rfl, hb⟩
    refine ⟨_, rfl, ?_⟩
    replace H := H.toBelow hb; clear hb
    refine OPS.val rfl rfl rfl (Ev.asB rfl) ?_
    refine OPS.nil ?_
    refine WP.ret ⟨_, rfl, ?_⟩
    exact ⟨rfl, H.below⟩
  have hfew := fewB_ok (show fewB l.length ts.length ns.length = true by simpa using hc1)
  refine WP.skip ?_
  refine WP.seq ?_
  refine WP.region ?_
  refine OPS.val rfl rfl rfl ((by exact Ev.loadO 2 H rfl (agg_run rfl) (size_run rfl) (by rfl) rfl)) ?_
  refine OPS.call (d := some 21) rfl rfl rfl (EvC.func (fun_run rfl)) (boundFind n hd A B C l ts ns ca cb cc w (hN.sh H)) ?_
  rintro _ w ⟨s, b, us, vs, AU, AV, cu, cv, L, rfl, hF, hrd, Hc⟩
  refine ⟨_, rfl, ?_⟩
  replace H := H.toBelow Hc.below
  clear Hc
  refine OPS.val rfl rfl rfl (Ev.mvT rfl) ?_
  refine OPS.val rfl rfl rfl (Ev.extract rfl rfl) ?_
  refine OPS.val rfl rfl rfl (Ev.extract rfl rfl) ?_
  refine OPS.alloc rfl rfl rfl rfl (zero_run rfl) rfl H ?_
  clear H; intro g7 w H
  refine OPS.store 0 _ rfl rfl rfl (size_run rfl) rfl (cA rfl) rfl rfl H rfl (by simp) ?_
  clear H; intro w H; try simp only [List.set_cons_zero, List.set_cons_succ, putL, Nat.zero_add] at H
  refine OPS.val rfl rfl rfl (Ev.asI rfl) ?_
  refine OPS.nil ?_
  replace H : SH w0 [] w [⟨g7, 33, bndL s b AU us.length cu AV vs.length cv⟩, ⟨g5, 44, [I ed.f, I ed.t, I ed.secs]⟩, ⟨g4, 42, [I tk.depot, I tk.cap, I tk.from_, I tk.to_]⟩, ⟨g3, 28, [I n, .slice A l.length ca, .slice B ts.length cb, .slice C ns.length cc, I hd]⟩] := H
  refine WP.seq ?_
  refine WP.seq ?_
  refine WP.region ?_
  refine OPS.val rfl rfl rfl (Ev.mvI rfl) ?_
  refine OPS.val rfl rfl rfl (Ev.neq rfl rfl) ?_
  refine OPS.nil ?_
  refine WP.cond rfl (fun hc4 => ?_) (fun hc4 => ?_)
  · refine WP.seq ?_
    refine WP.region ?_
    refine OPS.call (d := some 26) rfl rfl rfl (EvC.func (fun_run rfl)) (lawAwakeB w) ?_
    rintro _ w ⟨rfl, hb⟩
    refine ⟨_, rfl, ?_⟩
    replace H := H.toBelow hb; clear hb
    refine OPS.val rfl rfl rfl (Ev.asB rfl) ?_
    refine OPS.nil ?_
    refine WP.ret ⟨_, rfl, ?_⟩
    exact ⟨rfl, H.below⟩
  have he : findErr n l ts ns hd = 0 := by simpa using hc4
  refine WP.skip ?_
  refine WP.seq ?_
  refine WP.region ?_
  refine OPS.val rfl rfl rfl ((by exact Ev.loadO 3 H rfl (agg_run rfl) (size_run rfl) (by rfl) rfl)) ?_
  refine OPS.alloc rfl rfl rfl rfl (zero_run rfl) rfl H ?_
  clear H; intro g9 w H
  refine OPS.store 0 _ rfl rfl rfl (size_run rfl) rfl (cA rfl) rfl rfl H rfl (by simp) ?_
  clear H; intro w H; try simp only [List.set_cons_zero, List.set_cons_succ, putL, Nat.zero_add] at H
  refine OPS.nil ?_
  refine WP.seq ?_
  have E := H
  replace H := H.drop (List.sublist_cons_self _ _)
  refine WP.rheldC [28, 29, 30, 31, 32, 33, 34, 35] (fun _ w' => ∃ (AE : Option Addr) (ce : Nat) (Le : List Blk), OwnS AE ce (ts.length + 1) (ts.flatMap truckCells ++ [I tk.depot, I tk.cap, I tk.from_, I tk.to_]) 42 4 Le ∧ SH w0 [] w' ([⟨g9, 28, [I n, .slice A l.length ca, .slice AE (ts.length + 1) ce, .slice C ns.length cc, I hd]⟩, ⟨g7, 33, bndL s b AU us.length cu AV vs.length cv⟩, ⟨g5, 44, [I ed.f, I ed.t, I ed.secs]⟩, ⟨g4, 42, [I tk.depot, I tk.cap, I tk.from_, I tk.to_]⟩, ⟨g3, 28, [I n, .slice A l.length ca, .slice B ts.length cb, .slice C ns.length cc, I hd]⟩] ++ Le)) mixed H ?_ ?_
  · clear H; intro w hbw7 H
    refine OPH.take 1 rfl rfl rfl rfl (by kernel_rfl) (by kernel_rfl) (by kernel_rfl) rfl (by exact H) (fun w H => Ev.fieldAddr (fld_run rfl) rfl) ?_
    refine OPH.take 2 rfl rfl rfl rfl (by kernel_rfl) (by kernel_rfl) (by kernel_rfl) rfl (by exact H) (fun w H => Ev.load1 (agg_run rfl) rfl (by exact H.ldL 3 rfl _ rfl)) ?_
    refine OPH.take 4 rfl rfl rfl rfl (by kernel_rfl) (by kernel_rfl) (by kernel_rfl) rfl (by exact H) (fun w H => (by exact Ev.loadO 2 H rfl (agg_run rfl) (size_run rfl) (by rfl) rfl)) ?_
    refine OPH.all [0, 5] (by kernel_rfl) (by simp) rfl ?_
    intro i hi; simp only [List.mem_cons, List.not_mem_nil, or_false] at hi
    rcases hi with rfl | rfl
    · refine ⟨_, rfl, ?_⟩
      first
      | (refine OPS.buildSlice rfl rfl rfl rfl (bsl_25_0_ (e := fun _ => .int .i64 0)) E6 ?_
         clear H; intro g28 w E06; clear E6
         have H := ((E06.drop (List.sublist_cons_self _ _)).drop (List.sublist_cons_self _ _)).drop (List.sublist_cons_self _ _))
      | (refine OPS.buildSlice rfl rfl rfl rfl (bsl_25_0_ (e := fun _ => .int .i64 0)) (E.toBelow hbw7) ?_
         clear H; intro g28 w E0; clear E
         have H := (E0.drop (List.sublist_cons_self _ _)).drop (List.sublist_cons_self _ _))
      refine OPS.nil ?_
      refine ⟨(by exact H), ?_⟩
      refine OPH.all [3, 5] (by kernel_rfl) (by simp) rfl ?_
      intro i hi; simp only [List.mem_cons, List.not_mem_nil, or_false] at hi
      rcases hi with rfl | rfl
      · refine ⟨_, rfl, ?_⟩
        first
        | (refine OPS.appendE (m := ts.length) (news := ts.flatMap truckCells) (R := [⟨g33, 42, [I tk.depot, I tk.cap, I tk.from_, I tk.to_]⟩, ⟨g9, 28, [I n, .slice A l.length ca, .slice B ts.length cb, .slice C ns.length cc, I hd]⟩, ⟨g7, 33, bndL s b AU us.length cu AV vs.length cv⟩, ⟨g5, 44, [I ed.f, I ed.t, I ed.secs]⟩, ⟨g4, 42, [I tk.depot, I tk.cap, I tk.from_, I tk.to_]⟩, ⟨g3, 28, [I n, .slice A l.length ca, .slice B ts.length cb, .slice C ns.length cc, I hd]⟩]) rfl rfl rfl rfl rfl (sl_run rfl) rfl rfl (OwnS.empty (g := g28)) (rows_length truckCells_len ts) (rowsSrc truckCells_len (hN.sh H).t) (rows_one (fun _ => rfl) ts) (by omega) (by unfold maxLen; omega) E06 (by exact perm_by fun f => by simp [I] <;> omega) ?_
           clear H; intro AE ce Le w hOE E046; clear E06
           have H := ((E046.drop (List.sublist_cons_self _ _)).drop (List.sublist_append_left _ _)).drop (List.sublist_cons_self _ _)
           rw [Nat.zero_add, List.nil_append] at hOE
           rw [show 0 + ts.length = ts.length from Nat.zero_add _])
        | (refine OPS.appendE (m := ts.length) (news := ts.flatMap truckCells) (R := [⟨g9, 28, [I n, .slice A l.length ca, .slice B ts.length cb, .slice C ns.length cc, I hd]⟩, ⟨g7, 33, bndL s b AU us.length cu AV vs.length cv⟩, ⟨g5, 44, [I ed.f, I ed.t, I ed.secs]⟩, ⟨g4, 42, [I tk.depot, I tk.cap, I tk.from_, I tk.to_]⟩, ⟨g3, 28, [I n, .slice A l.length ca, .slice B ts.length cb, .slice C ns.length cc, I hd]⟩]) rfl rfl rfl rfl rfl (sl_run rfl) rfl rfl (OwnS.empty (g := g28)) (rows_length truckCells_len ts) (rowsSrc truckCells_len (hN.sh H).t) (rows_one (fun _ => rfl) ts) (by omega) (by unfold maxLen; omega) E0 (by exact perm_by fun f => by simp [I] <;> omega) ?_
           clear H; intro AE ce Le w hOE E04; clear E0
           have H := (E04.drop (List.sublist_append_left _ _)).drop (List.sublist_cons_self _ _)
           rw [Nat.zero_add, List.nil_append] at hOE
           rw [show 0 + ts.length = ts.length from Nat.zero_add _])
        refine OPS.nil ?_
        refine ⟨(by exact H), ?_⟩
        refine OPH.all [5] (by kernel_rfl) (by simp) rfl ?_
        intro i hi; simp only [List.mem_cons, List.not_mem_nil, or_false] at hi
        rcases hi with rfl
        · refine ⟨_, rfl, ?_⟩
          first
          | (refine OPS.buildSlice rfl rfl rfl rfl (bsl_25_1_0 rfl) E04 ?_
             clear H; intro g33 w E046; clear E04
             have H := ((E046.drop (List.sublist_cons_self _ _)).drop (List.sublist_append_left _ _)).drop (List.sublist_cons_self _ _))
          | (refine OPS.buildSlice rfl rfl rfl rfl (bsl_25_1_0 rfl) E0 ?_
             clear H; intro g33 w E60; clear E0
             have E06 := E60.perm (List.Perm.swap _ _ _)
             clear E60
             have H := ((E06.drop (List.sublist_cons_self _ _)).drop (List.sublist_cons_self _ _)).drop (List.sublist_cons_self _ _))
          | (refine OPS.buildSlice rfl rfl rfl rfl (bsl_25_1_0 rfl) (E.toBelow hbw7) ?_
             clear H; intro g33 w E6; clear E
             have H := (E6.drop (List.sublist_cons_self _ _)).drop (List.sublist_cons_self _ _))
          refine OPS.nil ?_
          refine ⟨(by exact H), ?_⟩
          refine OPH.all [6] (by kernel_rfl) (by simp) rfl ?_
          intro i hi; simp only [List.mem_cons, List.not_mem_nil, or_false] at hi
          rcases hi with rfl
          · refine ⟨_, rfl, ?_⟩
            refine OPS.append (m := 1) (news := [I tk.depot, I tk.cap, I tk.from_, I tk.to_]) (R := [⟨g33, 42, [I tk.depot, I tk.cap, I tk.from_, I tk.to_]⟩, ⟨g9, 28, [I n, .slice A l.length ca, .slice B ts.length cb, .slice C ns.length cc, I hd]⟩, ⟨g7, 33, bndL s b AU us.length cu AV vs.length cv⟩, ⟨g5, 44, [I ed.f, I ed.t, I ed.secs]⟩, ⟨g4, 42, [I tk.depot, I tk.cap, I tk.from_, I tk.to_]⟩, ⟨g3, 28, [I n, .slice A l.length ca, .slice B ts.length cb, .slice C ns.length cc, I hd]⟩]) rfl rfl rfl rfl rfl (sl_run rfl) rfl rfl hOE rfl (src_own E046 0 rfl) rfl (by omega) (by unfold maxLen; omega) E046 (List.Perm.refl _) ?_
            clear H hOE; intro AE ce Le w hOE E7; clear E046
            have H := ((E7.drop (List.sublist_cons_self _ _)).drop (List.sublist_append_left _ _)).drop (List.sublist_cons_self _ _)
            refine OPS.nil ?_
            refine ⟨(by exact H), ?_⟩
            refine OPH.take 7 rfl rfl rfl rfl (by kernel_rfl) (by kernel_rfl) (by kernel_rfl) rfl (by exact H) (fun w H => Ev.fieldAddr (fld_run rfl) rfl) ?_
            refine OPH.all [8] (by kernel_rfl) (by simp) rfl ?_
            intro i hi; simp only [List.mem_cons, List.not_mem_nil, or_false] at hi
            rcases hi with rfl
            · refine ⟨_, rfl, ?_⟩
              refine OPS.store 1 _ rfl rfl rfl (size_run rfl) rfl (cS rfl) rfl rfl E7 rfl (by simp) ?_
              clear H; intro w E8; clear E7
              simp only [List.set_cons_zero, List.set_cons_succ, List.cons_append, List.nil_append, putL] at E8
              have E10 := E8.drop (List.sublist_cons_self _ _)
              have H := (E10.drop (List.sublist_append_left [_, _, _, _, _] _)).drop (List.sublist_cons_self _ _)
              refine OPS.nil ?_
              refine ⟨(by exact H), ?_⟩
              refine OPH.done (by kernel_rfl) ?_
              exact ⟨(by repeat (first | exact Agree.refl _ _ | exact Agree.mix _ _ _ | refine Agree.upd rfl ?_ | refine Agree.mix2 rfl ?_)), AE, ce, Le, hOE, E10⟩
      · refine ⟨_, rfl, ?_⟩
        first
        | (refine OPS.buildSlice rfl rfl rfl rfl (bsl_25_1_0 rfl) E04 ?_
           clear H; intro g33 w E046; clear E04
           have H := ((E046.drop (List.sublist_cons_self _ _)).drop (List.sublist_append_left _ _)).drop (List.sublist_cons_self _ _))
        | (refine OPS.buildSlice rfl rfl rfl rfl (bsl_25_1_0 rfl) E0 ?_
           clear H; intro g33 w E60; clear E0
           have E06 := E60.perm (List.Perm.swap _ _ _)
           clear E60
           have H := ((E06.drop (List.sublist_cons_self _ _)).drop (List.sublist_cons_self _ _)).drop (List.sublist_cons_self _ _))
        | (refine OPS.buildSlice rfl rfl rfl rfl (bsl_25_1_0 rfl) (E.toBelow hbw7) ?_
           clear H; intro g33 w E6; clear E
           have H := (E6.drop (List.sublist_cons_self _ _)).drop (List.sublist_cons_self _ _))
        refine OPS.nil ?_
        refine ⟨(by exact H), ?_⟩
        refine OPH.all [3] (by kernel_rfl) (by simp) rfl ?_
        intro i hi; simp only [List.mem_cons, List.not_mem_nil, or_false] at hi
        rcases hi with rfl
        · refine ⟨_, rfl, ?_⟩
          first
          | (refine OPS.appendE (m := ts.length) (news := ts.flatMap truckCells) (R := [⟨g33, 42, [I tk.depot, I tk.cap, I tk.from_, I tk.to_]⟩, ⟨g9, 28, [I n, .slice A l.length ca, .slice B ts.length cb, .slice C ns.length cc, I hd]⟩, ⟨g7, 33, bndL s b AU us.length cu AV vs.length cv⟩, ⟨g5, 44, [I ed.f, I ed.t, I ed.secs]⟩, ⟨g4, 42, [I tk.depot, I tk.cap, I tk.from_, I tk.to_]⟩, ⟨g3, 28, [I n, .slice A l.length ca, .slice B ts.length cb, .slice C ns.length cc, I hd]⟩]) rfl rfl rfl rfl rfl (sl_run rfl) rfl rfl (OwnS.empty (g := g28)) (rows_length truckCells_len ts) (rowsSrc truckCells_len (hN.sh H).t) (rows_one (fun _ => rfl) ts) (by omega) (by unfold maxLen; omega) E06 (by exact perm_by fun f => by simp [I] <;> omega) ?_
             clear H; intro AE ce Le w hOE E046; clear E06
             have H := ((E046.drop (List.sublist_cons_self _ _)).drop (List.sublist_append_left _ _)).drop (List.sublist_cons_self _ _)
             rw [Nat.zero_add, List.nil_append] at hOE
             rw [show 0 + ts.length = ts.length from Nat.zero_add _])
          | (refine OPS.appendE (m := ts.length) (news := ts.flatMap truckCells) (R := [⟨g9, 28, [I n, .slice A l.length ca, .slice B ts.length cb, .slice C ns.length cc, I hd]⟩, ⟨g7, 33, bndL s b AU us.length cu AV vs.length cv⟩, ⟨g5, 44, [I ed.f, I ed.t, I ed.secs]⟩, ⟨g4, 42, [I tk.depot, I tk.cap, I tk.from_, I tk.to_]⟩, ⟨g3, 28, [I n, .slice A l.length ca, .slice B ts.length cb, .slice C ns.length cc, I hd]⟩]) rfl rfl rfl rfl rfl (sl_run rfl) rfl rfl (OwnS.empty (g := g28)) (rows_length truckCells_len ts) (rowsSrc truckCells_len (hN.sh H).t) (rows_one (fun _ => rfl) ts) (by omega) (by unfold maxLen; omega) E0 (by exact perm_by fun f => by simp [I] <;> omega) ?_
             clear H; intro AE ce Le w hOE E04; clear E0
             have H := (E04.drop (List.sublist_append_left _ _)).drop (List.sublist_cons_self _ _)
             rw [Nat.zero_add, List.nil_append] at hOE
             rw [show 0 + ts.length = ts.length from Nat.zero_add _])
          refine OPS.nil ?_
          refine ⟨(by exact H), ?_⟩
          refine OPH.all [6] (by kernel_rfl) (by simp) rfl ?_
          intro i hi; simp only [List.mem_cons, List.not_mem_nil, or_false] at hi
          rcases hi with rfl
          · refine ⟨_, rfl, ?_⟩
            refine OPS.append (m := 1) (news := [I tk.depot, I tk.cap, I tk.from_, I tk.to_]) (R := [⟨g33, 42, [I tk.depot, I tk.cap, I tk.from_, I tk.to_]⟩, ⟨g9, 28, [I n, .slice A l.length ca, .slice B ts.length cb, .slice C ns.length cc, I hd]⟩, ⟨g7, 33, bndL s b AU us.length cu AV vs.length cv⟩, ⟨g5, 44, [I ed.f, I ed.t, I ed.secs]⟩, ⟨g4, 42, [I tk.depot, I tk.cap, I tk.from_, I tk.to_]⟩, ⟨g3, 28, [I n, .slice A l.length ca, .slice B ts.length cb, .slice C ns.length cc, I hd]⟩]) rfl rfl rfl rfl rfl (sl_run rfl) rfl rfl hOE rfl (src_own E046 0 rfl) rfl (by omega) (by unfold maxLen; omega) E046 (List.Perm.refl _) ?_
            clear H hOE; intro AE ce Le w hOE E7; clear E046
            have H := ((E7.drop (List.sublist_cons_self _ _)).drop (List.sublist_append_left _ _)).drop (List.sublist_cons_self _ _)
            refine OPS.nil ?_
            refine ⟨(by exact H), ?_⟩
            refine OPH.take 7 rfl rfl rfl rfl (by kernel_rfl) (by kernel_rfl) (by kernel_rfl) rfl (by exact H) (fun w H => Ev.fieldAddr (fld_run rfl) rfl) ?_
            refine OPH.all [8] (by kernel_rfl) (by simp) rfl ?_
            intro i hi; simp only [List.mem_cons, List.not_mem_nil, or_false] at hi
            rcases hi with rfl
            · refine ⟨_, rfl, ?_⟩
              refine OPS.store 1 _ rfl rfl rfl (size_run rfl) rfl (cS rfl) rfl rfl E7 rfl (by simp) ?_
              clear H; intro w E8; clear E7
              simp only [List.set_cons_zero, List.set_cons_succ, List.cons_append, List.nil_append, putL] at E8
              have E10 := E8.drop (List.sublist_cons_self _ _)
              have H := (E10.drop (List.sublist_append_left [_, _, _, _, _] _)).drop (List.sublist_cons_self _ _)
              refine OPS.nil ?_
              refine ⟨(by exact H), ?_⟩
              refine OPH.done (by kernel_rfl) ?_
              exact ⟨(by repeat (first | exact Agree.refl _ _ | exact Agree.mix _ _ _ | refine Agree.upd rfl ?_ | refine Agree.mix2 rfl ?_)), AE, ce, Le, hOE, E10⟩
    · refine ⟨_, rfl, ?_⟩
      first
      | (refine OPS.buildSlice rfl rfl rfl rfl (bsl_25_1_0 rfl) E04 ?_
         clear H; intro g33 w E046; clear E04
         have H := ((E046.drop (List.sublist_cons_self _ _)).drop (List.sublist_append_left _ _)).drop (List.sublist_cons_self _ _))
      | (refine OPS.buildSlice rfl rfl rfl rfl (bsl_25_1_0 rfl) E0 ?_
         clear H; intro g33 w E60; clear E0
         have E06 := E60.perm (List.Perm.swap _ _ _)
         clear E60
         have H := ((E06.drop (List.sublist_cons_self _ _)).drop (List.sublist_cons_self _ _)).drop (List.sublist_cons_self _ _))
      | (refine OPS.buildSlice rfl rfl rfl rfl (bsl_25_1_0 rfl) (E.toBelow hbw7) ?_
         clear H; intro g33 w E6; clear E
         have H := (E6.drop (List.sublist_cons_self _ _)).drop (List.sublist_cons_self _ _))
      refine OPS.nil ?_
      refine ⟨(by exact H), ?_⟩
      refine OPH.all [0] (by kernel_rfl) (by simp) rfl ?_
      intro i hi; simp only [List.mem_cons, List.not_mem_nil, or_false] at hi
      rcases hi with rfl
      · refine ⟨_, rfl, ?_⟩
        first
        | (refine OPS.buildSlice rfl rfl rfl rfl (bsl_25_0_ (e := fun _ => .int .i64 0)) E6 ?_
           clear H; intro g28 w E06; clear E6
           have H := ((E06.drop (List.sublist_cons_self _ _)).drop (List.sublist_cons_self _ _)).drop (List.sublist_cons_self _ _))
        | (refine OPS.buildSlice rfl rfl rfl rfl (bsl_25_0_ (e := fun _ => .int .i64 0)) (E.toBelow hbw7) ?_
           clear H; intro g28 w E0; clear E
           have H := (E0.drop (List.sublist_cons_self _ _)).drop (List.sublist_cons_self _ _))
        refine OPS.nil ?_
        refine ⟨(by exact H), ?_⟩
        refine OPH.all [3] (by kernel_rfl) (by simp) rfl ?_
        intro i hi; simp only [List.mem_cons, List.not_mem_nil, or_false] at hi
        rcases hi with rfl
        · refine ⟨_, rfl, ?_⟩
          first
          | (refine OPS.appendE (m := ts.length) (news := ts.flatMap truckCells) (R := [⟨g33, 42, [I tk.depot, I tk.cap, I tk.from_, I tk.to_]⟩, ⟨g9, 28, [I n, .slice A l.length ca, .slice B ts.length cb, .slice C ns.length cc, I hd]⟩, ⟨g7, 33, bndL s b AU us.length cu AV vs.length cv⟩, ⟨g5, 44, [I ed.f, I ed.t, I ed.secs]⟩, ⟨g4, 42, [I tk.depot, I tk.cap, I tk.from_, I tk.to_]⟩, ⟨g3, 28, [I n, .slice A l.length ca, .slice B ts.length cb, .slice C ns.length cc, I hd]⟩]) rfl rfl rfl rfl rfl (sl_run rfl) rfl rfl (OwnS.empty (g := g28)) (rows_length truckCells_len ts) (rowsSrc truckCells_len (hN.sh H).t) (rows_one (fun _ => rfl) ts) (by omega) (by unfold maxLen; omega) E06 (by exact perm_by fun f => by simp [I] <;> omega) ?_
             clear H; intro AE ce Le w hOE E046; clear E06
             have H := ((E046.drop (List.sublist_cons_self _ _)).drop (List.sublist_append_left _ _)).drop (List.sublist_cons_self _ _)
             rw [Nat.zero_add, List.nil_append] at hOE
             rw [show 0 + ts.length = ts.length from Nat.zero_add _])
          | (refine OPS.appendE (m := ts.length) (news := ts.flatMap truckCells) (R := [⟨g9, 28, [I n, .slice A l.length ca, .slice B ts.length cb, .slice C ns.length cc, I hd]⟩, ⟨g7, 33, bndL s b AU us.length cu AV vs.length cv⟩, ⟨g5, 44, [I ed.f, I ed.t, I ed.secs]⟩, ⟨g4, 42, [I tk.depot, I tk.cap, I tk.from_, I tk.to_]⟩, ⟨g3, 28, [I n, .slice A l.length ca, .slice B ts.length cb, .slice C ns.length cc, I hd]⟩]) rfl rfl rfl rfl rfl (sl_run rfl) rfl rfl (OwnS.empty (g := g28)) (rows_length truckCells_len ts) (rowsSrc truckCells_len (hN.sh H).t) (rows_one (fun _ => rfl) ts) (by omega) (by unfold maxLen; omega) E0 (by exact perm_by fun f => by simp [I] <;> omega) ?_
             clear H; intro AE ce Le w hOE E04; clear E0
             have H := (E04.drop (List.sublist_append_left _ _)).drop (List.sublist_cons_self _ _)
             rw [Nat.zero_add, List.nil_append] at hOE
             rw [show 0 + ts.length = ts.length from Nat.zero_add _])
          refine OPS.nil ?_
          refine ⟨(by exact H), ?_⟩
          refine OPH.all [6] (by kernel_rfl) (by simp) rfl ?_
          intro i hi; simp only [List.mem_cons, List.not_mem_nil, or_false] at hi
          rcases hi with rfl
          · refine ⟨_, rfl, ?_⟩
            refine OPS.append (m := 1) (news := [I tk.depot, I tk.cap, I tk.from_, I tk.to_]) (R := [⟨g33, 42, [I tk.depot, I tk.cap, I tk.from_, I tk.to_]⟩, ⟨g9, 28, [I n, .slice A l.length ca, .slice B ts.length cb, .slice C ns.length cc, I hd]⟩, ⟨g7, 33, bndL s b AU us.length cu AV vs.length cv⟩, ⟨g5, 44, [I ed.f, I ed.t, I ed.secs]⟩, ⟨g4, 42, [I tk.depot, I tk.cap, I tk.from_, I tk.to_]⟩, ⟨g3, 28, [I n, .slice A l.length ca, .slice B ts.length cb, .slice C ns.length cc, I hd]⟩]) rfl rfl rfl rfl rfl (sl_run rfl) rfl rfl hOE rfl (src_own E046 0 rfl) rfl (by omega) (by unfold maxLen; omega) E046 (List.Perm.refl _) ?_
            clear H hOE; intro AE ce Le w hOE E7; clear E046
            have H := ((E7.drop (List.sublist_cons_self _ _)).drop (List.sublist_append_left _ _)).drop (List.sublist_cons_self _ _)
            refine OPS.nil ?_
            refine ⟨(by exact H), ?_⟩
            refine OPH.take 7 rfl rfl rfl rfl (by kernel_rfl) (by kernel_rfl) (by kernel_rfl) rfl (by exact H) (fun w H => Ev.fieldAddr (fld_run rfl) rfl) ?_
            refine OPH.all [8] (by kernel_rfl) (by simp) rfl ?_
            intro i hi; simp only [List.mem_cons, List.not_mem_nil, or_false] at hi
            rcases hi with rfl
            · refine ⟨_, rfl, ?_⟩
              refine OPS.store 1 _ rfl rfl rfl (size_run rfl) rfl (cS rfl) rfl rfl E7 rfl (by simp) ?_
              clear H; intro w E8; clear E7
              simp only [List.set_cons_zero, List.set_cons_succ, List.cons_append, List.nil_append, putL] at E8
              have E10 := E8.drop (List.sublist_cons_self _ _)
              have H := (E10.drop (List.sublist_append_left [_, _, _, _, _] _)).drop (List.sublist_cons_self _ _)
              refine OPS.nil ?_
              refine ⟨(by exact H), ?_⟩
              refine OPH.done (by kernel_rfl) ?_
              exact ⟨(by repeat (first | exact Agree.refl _ _ | exact Agree.mix _ _ _ | refine Agree.upd rfl ?_ | refine Agree.mix2 rfl ?_)), AE, ce, Le, hOE, E10⟩
  clear H
  rintro u w ⟨AE, ce, Le, hOE, H⟩
  clear E
  replace hOE : OwnS AE ce (ts.length + 1) ((ts ++ [tk]).flatMap truckCells) 42 4 Le := by rw [List.flatMap_append, List.flatMap_cons, List.flatMap_nil, List.append_nil]; exact hOE
  have hlen : (ts ++ [tk]).length = ts.length + 1 := by simp
  have hN2 : ∀ w R, SH w0 [] w (R ++ Le) → NightAt w A AE C l (ts ++ [tk]) ns cc := fun w R H => ⟨(hN.sh H).l, (hOE.rows (l := ts ++ [tk]) truckCells_len (by decide) H).1, (hN.sh H).n, hN.c⟩
  have hfind := boundFind n hd A AE C l (ts ++ [tk]) ns ca ce cc w (hN2 w _ H)
  rw [hlen] at hfind
  refine WP.seq ?_
  refine WP.region ?_
  refine OPS.val rfl rfl rfl ((by exact Ev.loadO 0 H rfl (agg_run rfl) (size_run rfl) (by rfl) rfl)) ?_
  refine OPS.call (d := some 38) rfl rfl rfl (EvC.func (fun_run rfl)) (hfind) ?_
  rintro _ w ⟨s', b', us', vs', AU', AV', cu', cv', L', rfl, hF', hrd', Hc⟩
  refine ⟨_, rfl, ?_⟩
  replace H := H.toBelow Hc.below
  clear Hc hfind
  refine OPS.val rfl rfl rfl (Ev.mvT rfl) ?_
  refine OPS.val rfl rfl rfl (Ev.extract rfl rfl) ?_
  refine OPS.val rfl rfl rfl (Ev.extract rfl rfl) ?_
  refine OPS.alloc rfl rfl rfl rfl (zero_run rfl) rfl H ?_
  clear H; intro g10 w H
  refine OPS.store 0 _ rfl rfl rfl (size_run rfl) rfl (cA rfl) rfl rfl H rfl (by simp) ?_
  clear H; intro w H; try simp only [List.set_cons_zero, List.set_cons_succ, putL, Nat.zero_add] at H
  refine OPS.val rfl rfl rfl (Ev.asI rfl) ?_
  refine OPS.nil ?_
  refine WP.seq ?_
  refine WP.seq ?_
  refine WP.region ?_
  refine OPS.val rfl rfl rfl ((by exact Ev.loadO 1 H rfl (agg_run rfl) (size_run rfl) (by rfl) rfl)) ?_
  have hchk := truckCheck n hd A AE C l (ts ++ [tk]) ns ca ce cc w (hN2 w _ (H.drop (List.sublist_cons_self _ _))).l (hN2 w _ (H.drop (List.sublist_cons_self _ _))).t (hN2 w _ (H.drop (List.sublist_cons_self _ _))).n hN.c
  rw [hlen] at hchk
  refine OPS.call (d := some 42) rfl rfl rfl (EvC.func (fun_run rfl)) (hchk) ?_
  rintro _ w ⟨rfl, hb⟩
  refine ⟨_, rfl, ?_⟩
  replace H := H.toBelow hb; clear hb
  refine OPS.val rfl rfl rfl (Ev.eql rfl rfl) ?_
  refine OPS.val rfl rfl rfl (Ev.mvB rfl) ?_
  refine OPS.gval rfl rfl rfl rfl rfl (fun hg => Ev.mvI (by rfl)) ?_
  refine OPS.gval rfl rfl rfl rfl rfl (fun hg => Ev.neq (by exact gvE hg rfl) (by rfl)) ?_
  refine OPS.gval rfl rfl rfl rfl rfl (fun hg => Ev.mvB (by exact gvE hg rfl)) ?_
  refine OPS.gvalN rfl rfl (GB.g rfl) rfl rfl (fun hg => Ev.fieldAddr (fld_run rfl) (by rfl)) ?_
  refine OPS.gvalN rfl rfl (GB.g rfl) rfl rfl (fun hg => Ev.load1 (agg_run rfl) (by exact gvE hg rfl) (by exact H.ldL 0 rfl _ rfl)) ?_
  refine OPS.gvalN rfl rfl (GB.g rfl) rfl rfl (fun hg => Ev.fieldAddr (fld_run rfl) (by rfl)) ?_
  refine OPS.gvalN rfl rfl (GB.g rfl) rfl rfl (fun hg => Ev.load1 (agg_run rfl) (by exact gvE hg rfl) (by exact H.ldL 2 rfl _ rfl)) ?_
  refine OPS.gvalN rfl rfl (GB.g rfl) rfl rfl (fun hg => Ev.gtr (by exact gvE hg rfl) (by exact gvE hg rfl)) ?_
  refine OPS.gval rfl rfl rfl rfl rfl (fun hg => (by exact Ev.pickOr2 (beqT hg) (gvE hg rfl) rfl rfl)) ?_
  refine OPS.gval rfl rfl rfl rfl rfl (fun hg => Ev.mvB (by exact gvE hg rfl)) ?_
  refine OPS.gvalN rfl rfl (GB.g rfl) rfl rfl (fun hg => Ev.fieldAddr (fld_run rfl) (by rfl)) ?_
  refine OPS.gvalN rfl rfl (GB.g rfl) rfl rfl (fun hg => Ev.load1 (agg_run rfl) (by exact gvE hg rfl) (by exact H.ldL 0 rfl _ rfl)) ?_
  refine OPS.gvalN rfl rfl (GB.g rfl) rfl rfl (fun hg => Ev.fieldAddr (fld_run rfl) (by rfl)) ?_
  refine OPS.gvalN rfl rfl (GB.g rfl) rfl rfl (fun hg => Ev.load1 (agg_run rfl) (by exact gvE hg rfl) (by exact H.ldL 2 rfl _ rfl)) ?_
  refine OPS.gvalN rfl rfl (GB.g rfl) rfl rfl (fun hg => Ev.neq (by exact gvE hg rfl) (by exact gvE hg rfl)) ?_
  refine OPS.gval rfl rfl rfl rfl rfl (fun hg => (by exact Ev.pickOr2 (beqT hg) (gvE hg rfl) rfl rfl)) ?_
  refine OPS.val rfl rfl rfl ((by exact Ev.pickAnd rfl rfl rfl)) ?_
  refine OPS.nil ?_
  refine WP.cond rfl (fun hc9 => ?_) (fun hc9 => ?_)
  · refine WP.seq ?_
    refine WP.region ?_
    refine OPS.val rfl rfl rfl (Ev.asB rfl) ?_
    refine OPS.nil ?_
    refine WP.ret ⟨_, rfl, ?_⟩
    refine absurd hc9 ?_
    by_cases hn : nightErr n l (ts ++ [tk]) ns hd = 0
    · obtain ⟨q1, q2, q3⟩ := ease_truck hF he hF' hn
      simp [hn, q1, q3]; omega
    · simp [hn]
  replace H : SH w0 [] w [⟨g7, 33, bndL s b AU us.length cu AV vs.length cv⟩, ⟨g5, 44, [I ed.f, I ed.t, I ed.secs]⟩, ⟨g4, 42, [I tk.depot, I tk.cap, I tk.from_, I tk.to_]⟩, ⟨g3, 28, [I n, .slice A l.length ca, .slice B ts.length cb, .slice C ns.length cc, I hd]⟩] := H.drop (((List.sublist_append_left [_, _, _, _] Le).cons _).cons _)
  clear hN2 hOE hrd'
  refine WP.skip ?_
  refine WP.seq ?_
  refine WP.region ?_
  refine OPS.val rfl rfl rfl ((by exact Ev.loadO 3 H rfl (agg_run rfl) (size_run rfl) (by rfl) rfl)) ?_
  refine OPS.alloc rfl rfl rfl rfl (zero_run rfl) rfl H ?_
  clear H; intro g12 w H
  refine OPS.store 0 _ rfl rfl rfl (size_run rfl) rfl (cA rfl) rfl rfl H rfl (by simp) ?_
  clear H; intro w H; try simp only [List.set_cons_zero, List.set_cons_succ, putL, Nat.zero_add] at H
  refine OPS.nil ?_
  refine WP.seq ?_
  have E := H
  replace H := H.drop (List.sublist_cons_self _ _)
  refine WP.rheldC [63, 64, 65, 66, 67, 68, 69, 70, 71, 72] (fun _ w' => ∃ (AE : Option Addr) (ce : Nat) (Le : List Blk), OwnS AE ce (l.length + 1) (l.flatMap edgCells ++ [I ed.f, I ed.t, I ed.secs]) 44 3 Le ∧ SH w0 [] w' ([⟨g12, 28, [I n, .slice AE (l.length + 1) ce, .slice B ts.length cb, .slice C ns.length cc, I hd]⟩, ⟨g7, 33, bndL s b AU us.length cu AV vs.length cv⟩, ⟨g5, 44, [I ed.f, I ed.t, I ed.secs]⟩, ⟨g4, 42, [I tk.depot, I tk.cap, I tk.from_, I tk.to_]⟩, ⟨g3, 28, [I n, .slice A l.length ca, .slice B ts.length cb, .slice C ns.length cc, I hd]⟩] ++ Le)) mixed H ?_ ?_
  · clear H; intro w hbw12 H
    refine OPH.take 1 rfl rfl rfl rfl (by kernel_rfl) (by kernel_rfl) (by kernel_rfl) rfl (by exact H) (fun w H => Ev.fieldAddr (fld_run rfl) rfl) ?_
    refine OPH.take 2 rfl rfl rfl rfl (by kernel_rfl) (by kernel_rfl) (by kernel_rfl) rfl (by exact H) (fun w H => Ev.fieldAddr (fld_run rfl) rfl) ?_
    refine OPH.take 3 rfl rfl rfl rfl (by kernel_rfl) (by kernel_rfl) (by kernel_rfl) rfl (by exact H) (fun w H => Ev.load1 (agg_run rfl) rfl (by exact H.ldL 3 rfl _ rfl)) ?_
    refine OPH.take 5 rfl rfl rfl rfl (by kernel_rfl) (by kernel_rfl) (by kernel_rfl) rfl (by exact H) (fun w H => (by exact Ev.loadO 1 H rfl (agg_run rfl) (size_run rfl) (by rfl) rfl)) ?_
    refine OPH.all [0, 6] (by kernel_rfl) (by simp) rfl ?_
    intro i hi; simp only [List.mem_cons, List.not_mem_nil, or_false] at hi
    rcases hi with rfl | rfl
    · refine ⟨_, rfl, ?_⟩
      first
      | (refine OPS.buildSlice rfl rfl rfl rfl (bsl_22_0_ (e := fun _ => .int .i64 0)) E6 ?_
         clear H; intro g63 w E06; clear E6
         have H := ((E06.drop (List.sublist_cons_self _ _)).drop (List.sublist_cons_self _ _)).drop (List.sublist_cons_self _ _))
      | (refine OPS.buildSlice rfl rfl rfl rfl (bsl_22_0_ (e := fun _ => .int .i64 0)) (E.toBelow hbw12) ?_
         clear H; intro g63 w E0; clear E
         have H := (E0.drop (List.sublist_cons_self _ _)).drop (List.sublist_cons_self _ _))
      refine OPS.nil ?_
      refine ⟨(by exact H), ?_⟩
      refine OPH.all [4, 6] (by kernel_rfl) (by simp) rfl ?_
      intro i hi; simp only [List.mem_cons, List.not_mem_nil, or_false] at hi
      rcases hi with rfl | rfl
      · refine ⟨_, rfl, ?_⟩
        first
        | (refine OPS.appendE (m := l.length) (news := l.flatMap edgCells) (R := [⟨g69, 44, [I ed.f, I ed.t, I ed.secs]⟩, ⟨g12, 28, [I n, .slice A l.length ca, .slice B ts.length cb, .slice C ns.length cc, I hd]⟩, ⟨g7, 33, bndL s b AU us.length cu AV vs.length cv⟩, ⟨g5, 44, [I ed.f, I ed.t, I ed.secs]⟩, ⟨g4, 42, [I tk.depot, I tk.cap, I tk.from_, I tk.to_]⟩, ⟨g3, 28, [I n, .slice A l.length ca, .slice B ts.length cb, .slice C ns.length cc, I hd]⟩]) rfl rfl rfl rfl rfl (sl_run rfl) rfl rfl (OwnS.empty (g := g63)) (rows_length edgCells_len l) (rowsSrc edgCells_len (hN.sh H).l) (rows_one (fun _ => rfl) l) (by omega) (by unfold maxLen; omega) E06 (by exact perm_by fun f => by simp [I] <;> omega) ?_
           clear H; intro AE ce Le w hOE E046; clear E06
           have H := ((E046.drop (List.sublist_cons_self _ _)).drop (List.sublist_append_left _ _)).drop (List.sublist_cons_self _ _)
           rw [Nat.zero_add, List.nil_append] at hOE
           rw [show 0 + l.length = l.length from Nat.zero_add _])
        | (refine OPS.appendE (m := l.length) (news := l.flatMap edgCells) (R := [⟨g12, 28, [I n, .slice A l.length ca, .slice B ts.length cb, .slice C ns.length cc, I hd]⟩, ⟨g7, 33, bndL s b AU us.length cu AV vs.length cv⟩, ⟨g5, 44, [I ed.f, I ed.t, I ed.secs]⟩, ⟨g4, 42, [I tk.depot, I tk.cap, I tk.from_, I tk.to_]⟩, ⟨g3, 28, [I n, .slice A l.length ca, .slice B ts.length cb, .slice C ns.length cc, I hd]⟩]) rfl rfl rfl rfl rfl (sl_run rfl) rfl rfl (OwnS.empty (g := g63)) (rows_length edgCells_len l) (rowsSrc edgCells_len (hN.sh H).l) (rows_one (fun _ => rfl) l) (by omega) (by unfold maxLen; omega) E0 (by exact perm_by fun f => by simp [I] <;> omega) ?_
           clear H; intro AE ce Le w hOE E04; clear E0
           have H := (E04.drop (List.sublist_append_left _ _)).drop (List.sublist_cons_self _ _)
           rw [Nat.zero_add, List.nil_append] at hOE
           rw [show 0 + l.length = l.length from Nat.zero_add _])
        refine OPS.nil ?_
        refine ⟨(by exact H), ?_⟩
        refine OPH.all [6] (by kernel_rfl) (by simp) rfl ?_
        intro i hi; simp only [List.mem_cons, List.not_mem_nil, or_false] at hi
        rcases hi with rfl
        · refine ⟨_, rfl, ?_⟩
          first
          | (refine OPS.buildSlice rfl rfl rfl rfl (bsl_22_1_0 rfl) E04 ?_
             clear H; intro g69 w E046; clear E04
             have H := ((E046.drop (List.sublist_cons_self _ _)).drop (List.sublist_append_left _ _)).drop (List.sublist_cons_self _ _))
          | (refine OPS.buildSlice rfl rfl rfl rfl (bsl_22_1_0 rfl) E0 ?_
             clear H; intro g69 w E60; clear E0
             have E06 := E60.perm (List.Perm.swap _ _ _)
             clear E60
             have H := ((E06.drop (List.sublist_cons_self _ _)).drop (List.sublist_cons_self _ _)).drop (List.sublist_cons_self _ _))
          | (refine OPS.buildSlice rfl rfl rfl rfl (bsl_22_1_0 rfl) (E.toBelow hbw12) ?_
             clear H; intro g69 w E6; clear E
             have H := (E6.drop (List.sublist_cons_self _ _)).drop (List.sublist_cons_self _ _))
          refine OPS.nil ?_
          refine ⟨(by exact H), ?_⟩
          refine OPH.all [7] (by kernel_rfl) (by simp) rfl ?_
          intro i hi; simp only [List.mem_cons, List.not_mem_nil, or_false] at hi
          rcases hi with rfl
          · refine ⟨_, rfl, ?_⟩
            refine OPS.append (m := 1) (news := [I ed.f, I ed.t, I ed.secs]) (R := [⟨g69, 44, [I ed.f, I ed.t, I ed.secs]⟩, ⟨g12, 28, [I n, .slice A l.length ca, .slice B ts.length cb, .slice C ns.length cc, I hd]⟩, ⟨g7, 33, bndL s b AU us.length cu AV vs.length cv⟩, ⟨g5, 44, [I ed.f, I ed.t, I ed.secs]⟩, ⟨g4, 42, [I tk.depot, I tk.cap, I tk.from_, I tk.to_]⟩, ⟨g3, 28, [I n, .slice A l.length ca, .slice B ts.length cb, .slice C ns.length cc, I hd]⟩]) rfl rfl rfl rfl rfl (sl_run rfl) rfl rfl hOE rfl (src_own E046 0 rfl) rfl (by omega) (by unfold maxLen; omega) E046 (List.Perm.refl _) ?_
            clear H hOE; intro AE ce Le w hOE E7; clear E046
            have H := ((E7.drop (List.sublist_cons_self _ _)).drop (List.sublist_append_left _ _)).drop (List.sublist_cons_self _ _)
            refine OPS.nil ?_
            refine ⟨(by exact H), ?_⟩
            refine OPH.take 8 rfl rfl rfl rfl (by kernel_rfl) (by kernel_rfl) (by kernel_rfl) rfl (by exact H) (fun w H => Ev.fieldAddr (fld_run rfl) rfl) ?_
            refine OPH.take 9 rfl rfl rfl rfl (by kernel_rfl) (by kernel_rfl) (by kernel_rfl) rfl (by exact H) (fun w H => Ev.fieldAddr (fld_run rfl) rfl) ?_
            refine OPH.all [10] (by kernel_rfl) (by simp) rfl ?_
            intro i hi; simp only [List.mem_cons, List.not_mem_nil, or_false] at hi
            rcases hi with rfl
            · refine ⟨_, rfl, ?_⟩
              refine OPS.store 1 _ rfl rfl rfl (size_run rfl) rfl (cS rfl) rfl rfl E7 rfl (by simp) ?_
              clear H; intro w E8; clear E7
              simp only [List.set_cons_zero, List.set_cons_succ, List.cons_append, List.nil_append, putL] at E8
              have E10 := E8.drop (List.sublist_cons_self _ _)
              have H := (E10.drop (List.sublist_append_left [_, _, _, _, _] _)).drop (List.sublist_cons_self _ _)
              refine OPS.nil ?_
              refine ⟨(by exact H), ?_⟩
              refine OPH.done (by kernel_rfl) ?_
              exact ⟨(by repeat (first | exact Agree.refl _ _ | exact Agree.mix _ _ _ | refine Agree.upd rfl ?_ | refine Agree.mix2 rfl ?_)), AE, ce, Le, hOE, E10⟩
      · refine ⟨_, rfl, ?_⟩
        first
        | (refine OPS.buildSlice rfl rfl rfl rfl (bsl_22_1_0 rfl) E04 ?_
           clear H; intro g69 w E046; clear E04
           have H := ((E046.drop (List.sublist_cons_self _ _)).drop (List.sublist_append_left _ _)).drop (List.sublist_cons_self _ _))
        | (refine OPS.buildSlice rfl rfl rfl rfl (bsl_22_1_0 rfl) E0 ?_
           clear H; intro g69 w E60; clear E0
           have E06 := E60.perm (List.Perm.swap _ _ _)
           clear E60
           have H := ((E06.drop (List.sublist_cons_self _ _)).drop (List.sublist_cons_self _ _)).drop (List.sublist_cons_self _ _))
        | (refine OPS.buildSlice rfl rfl rfl rfl (bsl_22_1_0 rfl) (E.toBelow hbw12) ?_
           clear H; intro g69 w E6; clear E
           have H := (E6.drop (List.sublist_cons_self _ _)).drop (List.sublist_cons_self _ _))
        refine OPS.nil ?_
        refine ⟨(by exact H), ?_⟩
        refine OPH.all [4] (by kernel_rfl) (by simp) rfl ?_
        intro i hi; simp only [List.mem_cons, List.not_mem_nil, or_false] at hi
        rcases hi with rfl
        · refine ⟨_, rfl, ?_⟩
          first
          | (refine OPS.appendE (m := l.length) (news := l.flatMap edgCells) (R := [⟨g69, 44, [I ed.f, I ed.t, I ed.secs]⟩, ⟨g12, 28, [I n, .slice A l.length ca, .slice B ts.length cb, .slice C ns.length cc, I hd]⟩, ⟨g7, 33, bndL s b AU us.length cu AV vs.length cv⟩, ⟨g5, 44, [I ed.f, I ed.t, I ed.secs]⟩, ⟨g4, 42, [I tk.depot, I tk.cap, I tk.from_, I tk.to_]⟩, ⟨g3, 28, [I n, .slice A l.length ca, .slice B ts.length cb, .slice C ns.length cc, I hd]⟩]) rfl rfl rfl rfl rfl (sl_run rfl) rfl rfl (OwnS.empty (g := g63)) (rows_length edgCells_len l) (rowsSrc edgCells_len (hN.sh H).l) (rows_one (fun _ => rfl) l) (by omega) (by unfold maxLen; omega) E06 (by exact perm_by fun f => by simp [I] <;> omega) ?_
             clear H; intro AE ce Le w hOE E046; clear E06
             have H := ((E046.drop (List.sublist_cons_self _ _)).drop (List.sublist_append_left _ _)).drop (List.sublist_cons_self _ _)
             rw [Nat.zero_add, List.nil_append] at hOE
             rw [show 0 + l.length = l.length from Nat.zero_add _])
          | (refine OPS.appendE (m := l.length) (news := l.flatMap edgCells) (R := [⟨g12, 28, [I n, .slice A l.length ca, .slice B ts.length cb, .slice C ns.length cc, I hd]⟩, ⟨g7, 33, bndL s b AU us.length cu AV vs.length cv⟩, ⟨g5, 44, [I ed.f, I ed.t, I ed.secs]⟩, ⟨g4, 42, [I tk.depot, I tk.cap, I tk.from_, I tk.to_]⟩, ⟨g3, 28, [I n, .slice A l.length ca, .slice B ts.length cb, .slice C ns.length cc, I hd]⟩]) rfl rfl rfl rfl rfl (sl_run rfl) rfl rfl (OwnS.empty (g := g63)) (rows_length edgCells_len l) (rowsSrc edgCells_len (hN.sh H).l) (rows_one (fun _ => rfl) l) (by omega) (by unfold maxLen; omega) E0 (by exact perm_by fun f => by simp [I] <;> omega) ?_
             clear H; intro AE ce Le w hOE E04; clear E0
             have H := (E04.drop (List.sublist_append_left _ _)).drop (List.sublist_cons_self _ _)
             rw [Nat.zero_add, List.nil_append] at hOE
             rw [show 0 + l.length = l.length from Nat.zero_add _])
          refine OPS.nil ?_
          refine ⟨(by exact H), ?_⟩
          refine OPH.all [7] (by kernel_rfl) (by simp) rfl ?_
          intro i hi; simp only [List.mem_cons, List.not_mem_nil, or_false] at hi
          rcases hi with rfl
          · refine ⟨_, rfl, ?_⟩
            refine OPS.append (m := 1) (news := [I ed.f, I ed.t, I ed.secs]) (R := [⟨g69, 44, [I ed.f, I ed.t, I ed.secs]⟩, ⟨g12, 28, [I n, .slice A l.length ca, .slice B ts.length cb, .slice C ns.length cc, I hd]⟩, ⟨g7, 33, bndL s b AU us.length cu AV vs.length cv⟩, ⟨g5, 44, [I ed.f, I ed.t, I ed.secs]⟩, ⟨g4, 42, [I tk.depot, I tk.cap, I tk.from_, I tk.to_]⟩, ⟨g3, 28, [I n, .slice A l.length ca, .slice B ts.length cb, .slice C ns.length cc, I hd]⟩]) rfl rfl rfl rfl rfl (sl_run rfl) rfl rfl hOE rfl (src_own E046 0 rfl) rfl (by omega) (by unfold maxLen; omega) E046 (List.Perm.refl _) ?_
            clear H hOE; intro AE ce Le w hOE E7; clear E046
            have H := ((E7.drop (List.sublist_cons_self _ _)).drop (List.sublist_append_left _ _)).drop (List.sublist_cons_self _ _)
            refine OPS.nil ?_
            refine ⟨(by exact H), ?_⟩
            refine OPH.take 8 rfl rfl rfl rfl (by kernel_rfl) (by kernel_rfl) (by kernel_rfl) rfl (by exact H) (fun w H => Ev.fieldAddr (fld_run rfl) rfl) ?_
            refine OPH.take 9 rfl rfl rfl rfl (by kernel_rfl) (by kernel_rfl) (by kernel_rfl) rfl (by exact H) (fun w H => Ev.fieldAddr (fld_run rfl) rfl) ?_
            refine OPH.all [10] (by kernel_rfl) (by simp) rfl ?_
            intro i hi; simp only [List.mem_cons, List.not_mem_nil, or_false] at hi
            rcases hi with rfl
            · refine ⟨_, rfl, ?_⟩
              refine OPS.store 1 _ rfl rfl rfl (size_run rfl) rfl (cS rfl) rfl rfl E7 rfl (by simp) ?_
              clear H; intro w E8; clear E7
              simp only [List.set_cons_zero, List.set_cons_succ, List.cons_append, List.nil_append, putL] at E8
              have E10 := E8.drop (List.sublist_cons_self _ _)
              have H := (E10.drop (List.sublist_append_left [_, _, _, _, _] _)).drop (List.sublist_cons_self _ _)
              refine OPS.nil ?_
              refine ⟨(by exact H), ?_⟩
              refine OPH.done (by kernel_rfl) ?_
              exact ⟨(by repeat (first | exact Agree.refl _ _ | exact Agree.mix _ _ _ | refine Agree.upd rfl ?_ | refine Agree.mix2 rfl ?_)), AE, ce, Le, hOE, E10⟩
    · refine ⟨_, rfl, ?_⟩
      first
      | (refine OPS.buildSlice rfl rfl rfl rfl (bsl_22_1_0 rfl) E04 ?_
         clear H; intro g69 w E046; clear E04
         have H := ((E046.drop (List.sublist_cons_self _ _)).drop (List.sublist_append_left _ _)).drop (List.sublist_cons_self _ _))
      | (refine OPS.buildSlice rfl rfl rfl rfl (bsl_22_1_0 rfl) E0 ?_
         clear H; intro g69 w E60; clear E0
         have E06 := E60.perm (List.Perm.swap _ _ _)
         clear E60
         have H := ((E06.drop (List.sublist_cons_self _ _)).drop (List.sublist_cons_self _ _)).drop (List.sublist_cons_self _ _))
      | (refine OPS.buildSlice rfl rfl rfl rfl (bsl_22_1_0 rfl) (E.toBelow hbw12) ?_
         clear H; intro g69 w E6; clear E
         have H := (E6.drop (List.sublist_cons_self _ _)).drop (List.sublist_cons_self _ _))
      refine OPS.nil ?_
      refine ⟨(by exact H), ?_⟩
      refine OPH.all [0] (by kernel_rfl) (by simp) rfl ?_
      intro i hi; simp only [List.mem_cons, List.not_mem_nil, or_false] at hi
      rcases hi with rfl
      · refine ⟨_, rfl, ?_⟩
        first
        | (refine OPS.buildSlice rfl rfl rfl rfl (bsl_22_0_ (e := fun _ => .int .i64 0)) E6 ?_
           clear H; intro g63 w E06; clear E6
           have H := ((E06.drop (List.sublist_cons_self _ _)).drop (List.sublist_cons_self _ _)).drop (List.sublist_cons_self _ _))
        | (refine OPS.buildSlice rfl rfl rfl rfl (bsl_22_0_ (e := fun _ => .int .i64 0)) (E.toBelow hbw12) ?_
           clear H; intro g63 w E0; clear E
           have H := (E0.drop (List.sublist_cons_self _ _)).drop (List.sublist_cons_self _ _))
        refine OPS.nil ?_
        refine ⟨(by exact H), ?_⟩
        refine OPH.all [4] (by kernel_rfl) (by simp) rfl ?_
        intro i hi; simp only [List.mem_cons, List.not_mem_nil, or_false] at hi
        rcases hi with rfl
        · refine ⟨_, rfl, ?_⟩
          first
          | (refine OPS.appendE (m := l.length) (news := l.flatMap edgCells) (R := [⟨g69, 44, [I ed.f, I ed.t, I ed.secs]⟩, ⟨g12, 28, [I n, .slice A l.length ca, .slice B ts.length cb, .slice C ns.length cc, I hd]⟩, ⟨g7, 33, bndL s b AU us.length cu AV vs.length cv⟩, ⟨g5, 44, [I ed.f, I ed.t, I ed.secs]⟩, ⟨g4, 42, [I tk.depot, I tk.cap, I tk.from_, I tk.to_]⟩, ⟨g3, 28, [I n, .slice A l.length ca, .slice B ts.length cb, .slice C ns.length cc, I hd]⟩]) rfl rfl rfl rfl rfl (sl_run rfl) rfl rfl (OwnS.empty (g := g63)) (rows_length edgCells_len l) (rowsSrc edgCells_len (hN.sh H).l) (rows_one (fun _ => rfl) l) (by omega) (by unfold maxLen; omega) E06 (by exact perm_by fun f => by simp [I] <;> omega) ?_
             clear H; intro AE ce Le w hOE E046; clear E06
             have H := ((E046.drop (List.sublist_cons_self _ _)).drop (List.sublist_append_left _ _)).drop (List.sublist_cons_self _ _)
             rw [Nat.zero_add, List.nil_append] at hOE
             rw [show 0 + l.length = l.length from Nat.zero_add _])
          | (refine OPS.appendE (m := l.length) (news := l.flatMap edgCells) (R := [⟨g12, 28, [I n, .slice A l.length ca, .slice B ts.length cb, .slice C ns.length cc, I hd]⟩, ⟨g7, 33, bndL s b AU us.length cu AV vs.length cv⟩, ⟨g5, 44, [I ed.f, I ed.t, I ed.secs]⟩, ⟨g4, 42, [I tk.depot, I tk.cap, I tk.from_, I tk.to_]⟩, ⟨g3, 28, [I n, .slice A l.length ca, .slice B ts.length cb, .slice C ns.length cc, I hd]⟩]) rfl rfl rfl rfl rfl (sl_run rfl) rfl rfl (OwnS.empty (g := g63)) (rows_length edgCells_len l) (rowsSrc edgCells_len (hN.sh H).l) (rows_one (fun _ => rfl) l) (by omega) (by unfold maxLen; omega) E0 (by exact perm_by fun f => by simp [I] <;> omega) ?_
             clear H; intro AE ce Le w hOE E04; clear E0
             have H := (E04.drop (List.sublist_append_left _ _)).drop (List.sublist_cons_self _ _)
             rw [Nat.zero_add, List.nil_append] at hOE
             rw [show 0 + l.length = l.length from Nat.zero_add _])
          refine OPS.nil ?_
          refine ⟨(by exact H), ?_⟩
          refine OPH.all [7] (by kernel_rfl) (by simp) rfl ?_
          intro i hi; simp only [List.mem_cons, List.not_mem_nil, or_false] at hi
          rcases hi with rfl
          · refine ⟨_, rfl, ?_⟩
            refine OPS.append (m := 1) (news := [I ed.f, I ed.t, I ed.secs]) (R := [⟨g69, 44, [I ed.f, I ed.t, I ed.secs]⟩, ⟨g12, 28, [I n, .slice A l.length ca, .slice B ts.length cb, .slice C ns.length cc, I hd]⟩, ⟨g7, 33, bndL s b AU us.length cu AV vs.length cv⟩, ⟨g5, 44, [I ed.f, I ed.t, I ed.secs]⟩, ⟨g4, 42, [I tk.depot, I tk.cap, I tk.from_, I tk.to_]⟩, ⟨g3, 28, [I n, .slice A l.length ca, .slice B ts.length cb, .slice C ns.length cc, I hd]⟩]) rfl rfl rfl rfl rfl (sl_run rfl) rfl rfl hOE rfl (src_own E046 0 rfl) rfl (by omega) (by unfold maxLen; omega) E046 (List.Perm.refl _) ?_
            clear H hOE; intro AE ce Le w hOE E7; clear E046
            have H := ((E7.drop (List.sublist_cons_self _ _)).drop (List.sublist_append_left _ _)).drop (List.sublist_cons_self _ _)
            refine OPS.nil ?_
            refine ⟨(by exact H), ?_⟩
            refine OPH.take 8 rfl rfl rfl rfl (by kernel_rfl) (by kernel_rfl) (by kernel_rfl) rfl (by exact H) (fun w H => Ev.fieldAddr (fld_run rfl) rfl) ?_
            refine OPH.take 9 rfl rfl rfl rfl (by kernel_rfl) (by kernel_rfl) (by kernel_rfl) rfl (by exact H) (fun w H => Ev.fieldAddr (fld_run rfl) rfl) ?_
            refine OPH.all [10] (by kernel_rfl) (by simp) rfl ?_
            intro i hi; simp only [List.mem_cons, List.not_mem_nil, or_false] at hi
            rcases hi with rfl
            · refine ⟨_, rfl, ?_⟩
              refine OPS.store 1 _ rfl rfl rfl (size_run rfl) rfl (cS rfl) rfl rfl E7 rfl (by simp) ?_
              clear H; intro w E8; clear E7
              simp only [List.set_cons_zero, List.set_cons_succ, List.cons_append, List.nil_append, putL] at E8
              have E10 := E8.drop (List.sublist_cons_self _ _)
              have H := (E10.drop (List.sublist_append_left [_, _, _, _, _] _)).drop (List.sublist_cons_self _ _)
              refine OPS.nil ?_
              refine ⟨(by exact H), ?_⟩
              refine OPH.done (by kernel_rfl) ?_
              exact ⟨(by repeat (first | exact Agree.refl _ _ | exact Agree.mix _ _ _ | refine Agree.upd rfl ?_ | refine Agree.mix2 rfl ?_)), AE, ce, Le, hOE, E10⟩
  clear H
  rintro u w ⟨AE, ce, Le, hOE, H⟩
  clear E
  replace hOE : OwnS AE ce (l.length + 1) ((l ++ [ed]).flatMap edgCells) 44 3 Le := by rw [List.flatMap_append, List.flatMap_cons, List.flatMap_nil, List.append_nil]; exact hOE
  have hlen2 : (l ++ [ed]).length = l.length + 1 := by simp
  have hN3 : ∀ w R, SH w0 [] w (R ++ Le) → NightAt w AE B C (l ++ [ed]) ts ns cc := fun w R H => ⟨(hOE.rows (l := l ++ [ed]) edgCells_len (by decide) H).1, (hN.sh H).t, (hN.sh H).n, hN.c⟩
  have hfind := boundFind n hd AE B C (l ++ [ed]) ts ns ce cb cc w (hN3 w _ H)
  rw [hlen2] at hfind
  refine WP.seq ?_
  refine WP.region ?_
  refine OPS.val rfl rfl rfl ((by exact Ev.loadO 0 H rfl (agg_run rfl) (size_run rfl) (by rfl) rfl)) ?_
  refine OPS.call (d := some 75) rfl rfl rfl (EvC.func (fun_run rfl)) (hfind) ?_
  rintro _ w ⟨s2, b2, us2, vs2, AU2, AV2, cu2, cv2, L2, rfl, hF2, hrd2, Hc⟩
  refine ⟨_, rfl, ?_⟩
  replace H := H.toBelow Hc.below
  clear Hc hfind
  refine OPS.val rfl rfl rfl (Ev.mvT rfl) ?_
  refine OPS.val rfl rfl rfl (Ev.extract rfl rfl) ?_
  refine OPS.val rfl rfl rfl (Ev.extract rfl rfl) ?_
  refine OPS.alloc rfl rfl rfl rfl (zero_run rfl) rfl H ?_
  clear H; intro g13 w H
  refine OPS.store 0 _ rfl rfl rfl (size_run rfl) rfl (cA rfl) rfl rfl H rfl (by simp) ?_
  clear H; intro w H; try simp only [List.set_cons_zero, List.set_cons_succ, putL, Nat.zero_add] at H
  refine OPS.val rfl rfl rfl (Ev.asI rfl) ?_
  refine OPS.nil ?_
  refine WP.seq ?_
  refine WP.region ?_
  refine OPS.val rfl rfl rfl ((by exact Ev.loadO 1 H rfl (agg_run rfl) (size_run rfl) (by rfl) rfl)) ?_
  have hchk := truckCheck n hd AE B C (l ++ [ed]) ts ns ce cb cc w (hN3 w _ (H.drop (List.sublist_cons_self _ _))).l (hN3 w _ (H.drop (List.sublist_cons_self _ _))).t (hN3 w _ (H.drop (List.sublist_cons_self _ _))).n hN.c
  rw [hlen2] at hchk
  refine OPS.call (d := some 79) rfl rfl rfl (EvC.func (fun_run rfl)) (hchk) ?_
  rintro _ w ⟨rfl, hb⟩
  refine ⟨_, rfl, ?_⟩
  replace H := H.toBelow hb; clear hb
  refine OPS.val rfl rfl rfl (Ev.neq rfl rfl) ?_
  refine OPS.val rfl rfl rfl (Ev.mvB rfl) ?_
  refine OPS.gval rfl rfl rfl rfl rfl (fun hg => Ev.mvI (by rfl)) ?_
  refine OPS.gval rfl rfl rfl rfl rfl (fun hg => Ev.eql (by exact gvE hg rfl) (by rfl)) ?_
  refine OPS.gval rfl rfl rfl rfl rfl (fun hg => Ev.mvB (by exact gvE hg rfl)) ?_
  refine OPS.gvalN rfl rfl (GB.g rfl) rfl rfl (fun hg => Ev.fieldAddr (fld_run rfl) (by rfl)) ?_
  refine OPS.gvalN rfl rfl (GB.g rfl) rfl rfl (fun hg => Ev.load1 (agg_run rfl) (by exact gvE hg rfl) (by exact H.ldL 0 rfl _ rfl)) ?_
  refine OPS.gvalN rfl rfl (GB.g rfl) rfl rfl (fun hg => Ev.fieldAddr (fld_run rfl) (by rfl)) ?_
  refine OPS.gvalN rfl rfl (GB.g rfl) rfl rfl (fun hg => Ev.load1 (agg_run rfl) (by exact gvE hg rfl) (by exact H.ldL 2 rfl _ rfl)) ?_
  refine OPS.gvalN rfl rfl (GB.g rfl) rfl rfl (fun hg => Ev.leq (by exact gvE hg rfl) (by exact gvE hg rfl)) ?_
  refine OPS.gval rfl rfl rfl rfl rfl (fun hg => (by exact Ev.pickAnd2 (beqT hg) (gvE hg rfl) rfl rfl)) ?_
  refine OPS.gval rfl rfl rfl rfl rfl (fun hg => Ev.mvB (by exact gvE hg rfl)) ?_
  refine OPS.gvalN rfl rfl (GB.g rfl) rfl rfl (fun hg => Ev.fieldAddr (fld_run rfl) (by rfl)) ?_
  refine OPS.gvalN rfl rfl (GB.g rfl) rfl rfl (fun hg => Ev.load1 (agg_run rfl) (by exact gvE hg rfl) (by exact H.ldL 0 rfl _ rfl)) ?_
  refine OPS.gvalN rfl rfl (GB.g rfl) rfl rfl (fun hg => Ev.fieldAddr (fld_run rfl) (by rfl)) ?_
  refine OPS.gvalN rfl rfl (GB.g rfl) rfl rfl (fun hg => Ev.load1 (agg_run rfl) (by exact gvE hg rfl) (by exact H.ldL 2 rfl _ rfl)) ?_
  refine OPS.gvalN rfl rfl (GB.g rfl) rfl rfl (fun hg => Ev.eql (by exact gvE hg rfl) (by exact gvE hg rfl)) ?_
  refine OPS.gval rfl rfl rfl rfl rfl (fun hg => (by exact Ev.pickAnd2 (beqT hg) (gvE hg rfl) rfl rfl)) ?_
  refine OPS.val rfl rfl rfl ((by exact Ev.pickOr rfl rfl rfl)) ?_
  refine OPS.val rfl rfl rfl (Ev.mvB rfl) ?_
  refine OPS.gcall0 (f := 10) (lawAwakeB w) (fun _ _ h => h) rfl rfl rfl rfl rfl (fun hg => (EvC.func (fun_run rfl))) ?_
  intro w hbc; replace H := H.toBelow hbc
  refine OPS.val rfl rfl rfl ((by exact Ev.pickAnd rfl rfl rfl)) ?_
  refine OPS.val rfl rfl rfl (Ev.asB rfl) ?_
  refine OPS.nil ?_
  refine WP.ret ⟨_, rfl, ?_⟩
  refine ⟨ret_true rfl ?_, H.below⟩
  by_cases hn : nightErr n (l ++ [ed]) ts ns hd = 0
  · obtain ⟨q1, q2, q3⟩ := ease_edge hF he hF2 hn
    simp [hn, q1, q2, q3]
  · simp [hn]
end Go.Proofs.Ytgjfjbphngamgaa
