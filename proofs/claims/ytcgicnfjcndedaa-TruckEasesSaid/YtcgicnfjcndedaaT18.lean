/-
  Walk: the reference's follow.
-/
import Derived.Test.YtcgicnfjcndedaaT16
set_option linter.all false
namespace Go.Proofs.Ytcgicnfjcndedaa
open Go Go.W Go.RowKit

theorem perm5 {a b c d e : Blk} {Lo Lc : List Blk} : (a :: ([b, c, d, e] ++ Lo ++ Lc)).Perm (([a, b, c, d, e] ++ Lc) ++ Lo) := by
  rw [show (a :: ([b, c, d, e] ++ Lo ++ Lc)) = [a, b, c, d, e] ++ (Lo ++ Lc) by simp, List.append_assoc]
  exact List.perm_append_comm.append_left _
theorem sub5 {a b c d e : Blk} {Lo Lc : List Blk} : ([c, d, e] ++ Lo).Sublist (([a, b, c, d, e] ++ Lc) ++ Lo) :=
  (List.Sublist.append (((List.Sublist.refl [c, d, e]).cons b).cons a |>.trans (List.sublist_append_left _ Lc)) (List.Sublist.refl Lo))
theorem goE_first {D : Nat → Nat → Int} {cap hd : Int} {ns : List Need} {rn : List Int} {s0 : TS} {j : Nat} {c : Int} (h : goE D cap hd ns (rn.take j) s0 = c) (hc : c ≠ 0) : goE D cap hd ns rn s0 = c := by
  have h2 := goE_app D cap hd ns (rn.take j) (rn.drop j) s0
  rw [List.take_append_drop, h, if_pos hc] at h2; exact h2
set_option maxHeartbeats 1000000 in
theorem r42Follow (n hd rt : Int) (A B C R : Option Addr) (l : List Edg) (ts : List Truck) (ns : List Need) (rn : List Int) (ca cb cc cr : Nat) (w0 : World) (hz : EdgsAt w0 A l) (ht : RowsAt 4 truckCells w0 B ts) (hn : RowsAt 2 needCells w0 C ns) (hr : IntsAt w0 R rn) (hrl : rn.length ≤ maxLen) :
    Calls Try.prog 32 #[.agg #[I n, .slice A l.length ca, .slice B ts.length cb, .slice C ns.length cc, I hd], .agg #[I rt, .slice R rn.length cr]] w0 fun e w' =>
      ∃ (V : Option Addr) (cv : Nat) (Lv : List Blk), e = .returned (.tuple #[.slice V (outV n l ts ns hd rt rn).length cv, I (outB' n l ts ns hd rt rn), I (outD n l ts ns hd rt rn), I (walkE n l ts ns hd rt rn)]) ∧ OwnS V cv (outV n l ts ns hd rt rn).length ((outV n l ts ns hd rt rn).flatMap visCells) 54 4 Lv ∧ SH w0 [] w' Lv := by
  have H := SH.refl w0
  have hbad : ∀ (w : World) (L : List Blk) (c : Int), SH w0 [] w L → walkE n l ts ns hd rt rn = c → c ≠ 0 → ∃ (V : Option Addr) (cv : Nat) (Lv : List Blk), Ending.returned (.tuple #[.slice none 0 0, I 0, I 0, I c]) = .returned (.tuple #[.slice V (outV n l ts ns hd rt rn).length cv, I (outB' n l ts ns hd rt rn), I (outD n l ts ns hd rt rn), I (walkE n l ts ns hd rt rn)]) ∧ OwnS V cv (outV n l ts ns hd rt rn).length ((outV n l ts ns hd rt rn).flatMap visCells) 54 4 Lv ∧ SH w0 [] w Lv := fun w L c H he hc => by
    have hne : ¬ walkE n l ts ns hd rt rn = 0 := by rw [he]; exact hc
    have e1 : outV n l ts ns hd rt rn = [] := if_neg hne
    have e2 : outB' n l ts ns hd rt rn = 0 := if_neg hne
    have e3 : outD n l ts ns hd rt rn = 0 := if_neg hne
    rw [e1, e2, e3, he]
    exact ⟨none, 0, [], rfl, OwnS.nil, H.reidx [] (by decide) rfl⟩
  refine Calls.ofWP Try.func32 rfl Try.results32 Try.ntmps32 rfl ?_
  refine WP.seq ?_
  refine WP.region ?_
  refine OPS.box rfl rfl rfl rfl (cA rfl) H ?_
  clear H; intro g2 w H
  refine OPS.box rfl rfl rfl rfl (cA rfl) H ?_
  clear H; intro g3 w H
  refine OPS.val rfl rfl rfl (Ev.asS rfl) ?_
  refine OPS.val rfl rfl rfl (Ev.asI rfl) ?_
  refine OPS.val rfl rfl rfl (Ev.asI rfl) ?_
  refine OPS.val rfl rfl rfl (Ev.asI rfl) ?_
  refine OPS.nil ?_
  refine WP.seq ?_
  refine WP.seq ?_
  refine WP.region ?_
  refine OPS.val rfl rfl rfl ((by first | exact Ev.loadO 0 H rfl (agg_run rfl) (size_run rfl) (by first | assumption | rfl) rfl | exact Ev.loadO 1 H rfl (agg_run rfl) (size_run rfl) (by first | assumption | rfl) rfl | exact Ev.loadO 2 H rfl (agg_run rfl) (size_run rfl) (by first | assumption | rfl) rfl | exact Ev.loadO 3 H rfl (agg_run rfl) (size_run rfl) (by first | assumption | rfl) rfl | exact Ev.loadO 4 H rfl (agg_run rfl) (size_run rfl) (by first | assumption | rfl) rfl | exact Ev.loadO 5 H rfl (agg_run rfl) (size_run rfl) (by first | assumption | rfl) rfl | exact Ev.loadO 6 H rfl (agg_run rfl) (size_run rfl) (by first | assumption | rfl) rfl | (change Ev _ _ _ _ (Op.load 28 (Operand.tmp 2)) _; fail))) ?_
  refine OPS.call (d := some 24) rfl rfl rfl (EvC.func (fun_run rfl)) (r42Check n hd A B C l ts ns ca cb cc w (hz.sh H) (ht.sh H) (hn.sh H)) ?_
  rintro _ w ⟨rfl, hb⟩
  refine ⟨_, rfl, ?_⟩
  replace H := H.toBelow hb; clear hb
  refine OPS.val rfl rfl rfl (Ev.asI rfl) ?_
  refine OPS.nil ?_
  refine WP.seq ?_
  refine WP.region ?_
  refine OPS.val rfl rfl rfl (Ev.mvI rfl) ?_
  refine OPS.val rfl rfl rfl (Ev.neq rfl rfl) ?_
  refine OPS.nil ?_
  refine WP.cond rfl (fun hc2 => ?_) (fun hc2 => ?_)
  · refine WP.seq ?_
    refine WP.region ?_
    refine OPS.val rfl rfl rfl (Ev.mvI rfl) ?_
    refine OPS.val rfl rfl rfl (Ev.asS rfl) ?_
    refine OPS.val rfl rfl rfl (Ev.asI rfl) ?_
    refine OPS.val rfl rfl rfl (Ev.asI rfl) ?_
    refine OPS.val rfl rfl rfl (Ev.asI rfl) ?_
    refine OPS.nil ?_
    refine WP.ret ⟨_, rfl, ?_⟩
    have h : nightErr n l ts ns hd ≠ 0 := by simpa using hc2
    exact hbad _ _ _ H (by rw [walkE, if_pos h]) h
  have h0 : nightErr n l ts ns hd = 0 := by simpa using hc2
  obtain ⟨m, rfl, hN⟩ := nightOk_of h0
  have htl := hN.tl
  have hnl := hN.nl
  have hh := hN.hh
  refine WP.skip ?_
  refine WP.seq ?_
  refine WP.seq ?_
  refine WP.region ?_
  refine OPS.val rfl rfl rfl ((by first | exact Ev.loadO 0 H rfl (agg_run rfl) (size_run rfl) (by first | assumption | rfl) rfl | exact Ev.loadO 1 H rfl (agg_run rfl) (size_run rfl) (by first | assumption | rfl) rfl | exact Ev.loadO 2 H rfl (agg_run rfl) (size_run rfl) (by first | assumption | rfl) rfl | exact Ev.loadO 3 H rfl (agg_run rfl) (size_run rfl) (by first | assumption | rfl) rfl | exact Ev.loadO 4 H rfl (agg_run rfl) (size_run rfl) (by first | assumption | rfl) rfl | exact Ev.loadO 5 H rfl (agg_run rfl) (size_run rfl) (by first | assumption | rfl) rfl | exact Ev.loadO 6 H rfl (agg_run rfl) (size_run rfl) (by first | assumption | rfl) rfl | (change Ev _ _ _ _ (Op.load 28 (Operand.tmp 2)) _; fail))) ?_
  refine OPS.val rfl rfl rfl ((by first | exact Ev.loadO 0 H rfl (agg_run rfl) (size_run rfl) (by first | assumption | rfl) rfl | exact Ev.loadO 1 H rfl (agg_run rfl) (size_run rfl) (by first | assumption | rfl) rfl | exact Ev.loadO 2 H rfl (agg_run rfl) (size_run rfl) (by first | assumption | rfl) rfl | exact Ev.loadO 3 H rfl (agg_run rfl) (size_run rfl) (by first | assumption | rfl) rfl | exact Ev.loadO 4 H rfl (agg_run rfl) (size_run rfl) (by first | assumption | rfl) rfl | exact Ev.loadO 5 H rfl (agg_run rfl) (size_run rfl) (by first | assumption | rfl) rfl | exact Ev.loadO 6 H rfl (agg_run rfl) (size_run rfl) (by first | assumption | rfl) rfl | (change Ev _ _ _ _ (Op.load 35 (Operand.tmp 3)) _; fail))) ?_
  refine OPS.call (d := some 30) rfl rfl rfl (EvC.func (fun_run rfl)) (r42Names m hd rt A B C R l.length ts ns rn ca cb cc cr w (hr.sh H) hrl htl hnl) ?_
  rintro _ w ⟨rfl, hb⟩
  refine ⟨_, rfl, ?_⟩
  replace H := H.toBelow hb; clear hb
  refine OPS.val rfl rfl rfl (Ev.asI rfl) ?_
  refine OPS.nil ?_
  refine WP.seq ?_
  refine WP.region ?_
  refine OPS.val rfl rfl rfl (Ev.mvI rfl) ?_
  refine OPS.val rfl rfl rfl (Ev.neq rfl rfl) ?_
  refine OPS.nil ?_
  refine WP.cond rfl (fun hc5 => ?_) (fun hc5 => ?_)
  · refine WP.seq ?_
    refine WP.region ?_
    refine OPS.val rfl rfl rfl (Ev.mvI rfl) ?_
    refine OPS.val rfl rfl rfl (Ev.asS rfl) ?_
    refine OPS.val rfl rfl rfl (Ev.asI rfl) ?_
    refine OPS.val rfl rfl rfl (Ev.asI rfl) ?_
    refine OPS.val rfl rfl rfl (Ev.asI rfl) ?_
    refine OPS.nil ?_
    refine WP.ret ⟨_, rfl, ?_⟩
    have h : routeErr ts ns rt rn ≠ 0 := by simpa using hc5
    exact hbad _ _ _ H (by rw [walkE, if_neg (by simp [h0]), if_pos h]) h
  have he0 : routeErr ts ns rt rn = 0 := by simpa using hc5
  obtain ⟨hrt, hrr, hrd, hrlen⟩ := routeOk_of he0
  obtain ⟨q, rfl⟩ := Int.eq_ofNat_of_zero_le hrt.1
  have hq : q < ts.length := by omega
  have hgt : ts.getD (q : Int).toNat default = ts[q] := by simp [hq]
  obtain ⟨bt, ot, rfl, htc⟩ := ht q hq
  have htr := hN.tr ts[q] (List.getElem_mem hq)
  have hw : walkE m l ts ns hd q rn = if goE (roadD m l) ts[q].cap hd ns rn (startT ts[q]) ≠ 0 then goE (roadD m l) ts[q].cap hd ns rn (startT ts[q]) else homeE (roadD m l (goT (roadD m l) hd ns rn (startT ts[q])).at_ ts[q].depot.toNat) hd ts[q] (goT (roadD m l) hd ns rn (startT ts[q])) := by
    rw [walkE, if_neg (by simp [h0]), if_neg (by simp [he0])]
    unfold endT
    rw [hgt]
  have hwT : walkT m l ts ns hd q rn = homeT (roadD m l (goT (roadD m l) hd ns rn (startT ts[q])).at_ ts[q].depot.toNat) hd ts[q] (goT (roadD m l) hd ns rn (startT ts[q])) := by
    unfold walkT endT
    rw [hgt]
  have hwV : walkV m l ts ns hd q rn = goV (roadD m l) hd ns rn (startT ts[q]) := by
    unfold walkV
    rw [hgt]
  obtain ⟨dv, hdv⟩ := Int.eq_ofNat_of_zero_le htr.1.1
  generalize htt : ts[q] = t at *
  have htc' := cellsAt_sh H htc
  refine WP.skip ?_
  refine WP.seq ?_
  refine WP.region ?_
  refine OPS.val rfl rfl rfl (Ev.fieldAddr (fld_run rfl) rfl) ?_
  refine OPS.val rfl rfl rfl (Ev.load1 (agg_run rfl) rfl (by first | exact H.ldL 0 rfl _ rfl | exact H.ldL 1 rfl _ rfl | exact H.ldL 2 rfl _ rfl | exact H.ldL 3 rfl _ rfl | exact H.ldL 4 rfl _ rfl | exact H.ldL 5 rfl _ rfl | exact H.ldL 6 rfl _ rfl | exact H.ldL 7 rfl _ rfl | exact H.ld0 (by assumption) | assumption | exact H.ldS (by assumption) (by assumption))) ?_
  refine OPS.val rfl rfl rfl (Ev.fieldAddr (fld_run rfl) rfl) ?_
  refine OPS.val rfl rfl rfl (Ev.load1 (agg_run rfl) rfl (by first | exact H.ldL 0 rfl _ rfl | exact H.ldL 1 rfl _ rfl | exact H.ldL 2 rfl _ rfl | exact H.ldL 3 rfl _ rfl | exact H.ldL 4 rfl _ rfl | exact H.ldL 5 rfl _ rfl | exact H.ldL 6 rfl _ rfl | exact H.ldL 7 rfl _ rfl | exact H.ld0 (by assumption) | assumption | exact H.ldS (by assumption) (by assumption))) ?_
  refine OPS.val rfl rfl rfl ((by first | exact Ev.indexAddr1 (el_run rfl) (size_run rfl) rfl rfl rfl (by omega) | exact Ev.indexAddr (el_run rfl) (size_run rfl) rfl rfl rfl (by omega))) ?_
  refine OPS.val rfl rfl rfl ((by first | exact Ev.loadO 0 H rfl (agg_run rfl) (size_run rfl) (by first | assumption | rfl) rfl | exact Ev.loadO 1 H rfl (agg_run rfl) (size_run rfl) (by first | assumption | rfl) rfl | exact Ev.loadO 2 H rfl (agg_run rfl) (size_run rfl) (by first | assumption | rfl) rfl | exact Ev.loadO 3 H rfl (agg_run rfl) (size_run rfl) (by first | assumption | rfl) rfl | exact Ev.loadO 4 H rfl (agg_run rfl) (size_run rfl) (by first | assumption | rfl) rfl | exact Ev.loadO 5 H rfl (agg_run rfl) (size_run rfl) (by first | assumption | rfl) rfl | exact Ev.loadO 6 H rfl (agg_run rfl) (size_run rfl) (by first | assumption | rfl) rfl | (change Ev _ _ _ _ (Op.load 52 (Operand.tmp 38)) _; exact Ev.loadN (truckCells t) (agg_run rfl) (size_run rfl) rfl htc'))) ?_
  refine OPS.alloc rfl rfl rfl rfl (zero_run rfl) rfl H ?_
  clear H; intro g10 w H
  first | refine OPS.store 0 _ rfl rfl rfl (size_run rfl) rfl (cA rfl) rfl rfl H rfl (by simp) ?_ | refine OPS.store 1 _ rfl rfl rfl (size_run rfl) rfl (cA rfl) rfl rfl H rfl (by simp) ?_ | refine OPS.store 2 _ rfl rfl rfl (size_run rfl) rfl (cA rfl) rfl rfl H rfl (by simp) ?_ | refine OPS.store 3 _ rfl rfl rfl (size_run rfl) rfl (cA rfl) rfl rfl H rfl (by simp) ?_ | refine OPS.store 4 _ rfl rfl rfl (size_run rfl) rfl (cA rfl) rfl rfl H rfl (by simp) ?_ | refine OPS.store 5 _ rfl rfl rfl (size_run rfl) rfl (cA rfl) rfl rfl H rfl (by simp) ?_ | refine OPS.store 6 _ rfl rfl rfl (size_run rfl) rfl (cA rfl) rfl rfl H rfl (by simp) ?_ | refine OPS.store 7 _ rfl rfl rfl (size_run rfl) rfl (cA rfl) rfl rfl H rfl (by simp) ?_ | refine OPS.store 8 _ rfl rfl rfl (size_run rfl) rfl (cA rfl) rfl rfl H rfl (by simp) ?_
  clear H; intro w H; try simp only [List.set_cons_zero, List.set_cons_succ, putL, Nat.zero_add] at H
  refine OPS.nil ?_
  refine WP.seq ?_
  refine WP.rstill mixed (by kernel_rfl) H ?_
  clear H; intro w hbw8 H
  refine OPS.val rfl rfl rfl (Ev.fieldAddr (fld_run rfl) rfl) ?_
  refine OPS.val rfl rfl rfl (Ev.load1 (agg_run rfl) rfl (by first | exact H.ldL 0 rfl _ rfl | exact H.ldL 1 rfl _ rfl | exact H.ldL 2 rfl _ rfl | exact H.ldL 3 rfl _ rfl | exact H.ldL 4 rfl _ rfl | exact H.ldL 5 rfl _ rfl | exact H.ldL 6 rfl _ rfl | exact H.ldL 7 rfl _ rfl | exact H.ld0 (by assumption) | assumption | exact H.ldS (by assumption) (by assumption))) ?_
  refine OPS.val rfl rfl rfl (Ev.fieldAddr (fld_run rfl) rfl) ?_
  refine OPS.val rfl rfl rfl (Ev.fieldAddr (fld_run rfl) rfl) ?_
  refine OPS.val rfl rfl rfl (Ev.load1 (agg_run rfl) rfl (by first | exact H.ldL 0 rfl _ rfl | exact H.ldL 1 rfl _ rfl | exact H.ldL 2 rfl _ rfl | exact H.ldL 3 rfl _ rfl | exact H.ldL 4 rfl _ rfl | exact H.ldL 5 rfl _ rfl | exact H.ldL 6 rfl _ rfl | exact H.ldL 7 rfl _ rfl | exact H.ld0 (by assumption) | assumption | exact H.ldS (by assumption) (by assumption))) ?_
  refine OPS.val rfl rfl rfl (Ev.asI rfl) ?_
  refine OPS.val rfl rfl rfl (Ev.asI rfl) ?_
  refine OPS.val rfl rfl rfl (Ev.asI rfl) ?_
  refine OPS.val rfl rfl rfl (Ev.asI rfl) ?_
  refine OPS.nil_s ?_
  refine WP.seq ?_
  refine WP.region ?_
  refine OPS.val rfl rfl rfl (Ev.asS rfl) ?_
  refine OPS.nil ?_
  refine WP.seq ?_
  refine WP.seq ?_
  refine WP.region ?_
  refine OPS.val rfl rfl rfl (Ev.asI rfl) ?_
  refine OPS.nil ?_
  refine WP.block ?_
  refine WP.loop [4, 5, 6, 7, 11, 12, 13, 14, 15, 16, 17, 18, 19, 20, 45, 46, 47, 48, 49, 50, 51, 52, 53, 54, 55, 56, 57, 58, 59, 60, 61, 62, 63, 64, 65, 66, 67, 68, 69, 70, 71, 72, 73, 74, 75, 76, 77, 78, 79, 80, 81, 82, 83, 84, 85, 86, 87, 88, 89, 90, 91, 92, 93, 94, 95, 96, 97, 98, 99, 100, 101, 102, 103, 104, 105, 106, 107, 108, 109, 110, 111, 112, 113, 114, 115, 116, 117, 118, 119, 120, 121, 122, 123, 124] (fun k e w' => ∃ (j : Nat) (s : TS) (V : Option Addr) (cv : Nat) (Lo : List Blk), j + k = rn.length ∧ e 16 = I j ∧ e 15 = .slice V j cv ∧ e 11 = I s.at_ ∧ e 12 = I s.now ∧ e 13 = I s.load ∧ e 14 = I s.driven ∧ OwnS V cv j ((goV (roadD m l) hd ns (rn.take j) (startT t)).flatMap visCells) 54 4 Lo ∧ goT (roadD m l) hd ns (rn.take j) (startT t) = s ∧ goE (roadD m l) t.cap hd ns (rn.take j) (startT t) = 0 ∧ TSOk m t.cap j s ∧ SH w0 [] w' ([⟨g10, 52, truckCells t⟩, ⟨g3, 35, [I q, .slice R rn.length cr]⟩, ⟨g2, 28, [I m, .slice A l.length ca, .slice (some ⟨bt, ot, none⟩) ts.length cb, .slice C ns.length cc, I hd]⟩] ++ Lo)) (rn.length) (⟨0, startT t, none, 0, [], by omega, rfl, rfl, (by show I t.depot = I (t.depot.toNat : Int); rw [hdv]; simp), rfl, rfl, rfl, OwnS.nil, rfl, rfl, TSOk.start htr, (by rw [List.append_nil]; exact H)⟩) ?_
  clear H
  rintro k u w ⟨j, s, V, cv, Lo, hk, h16, h15, h11, h12, h13, h14, hO, hgT, hgE, hS, H⟩
  refine WP.know (t := 16) h16 (WP.know (t := 15) h15 (WP.know (t := 11) h11 (WP.know (t := 12) h12 (WP.know (t := 13) h13 (WP.know (t := 14) h14 ?_)))))
  have hjn : j ≤ 16 := by omega
  have hSn := hS.now
  have hSd := hS.driven
  have hSl := hS.load
  have htc2 := htr.2.1
  refine WP.seq ?_
  refine WP.seq ?_
  refine WP.region ?_
  refine OPS.val rfl rfl rfl (Ev.mvI rfl) ?_
  refine OPS.val rfl rfl rfl (Ev.fieldAddr (fld_run rfl) rfl) ?_
  refine OPS.val rfl rfl rfl (Ev.load1 (agg_run rfl) rfl (by first | exact H.ldL 0 rfl _ rfl | exact H.ldL 1 rfl _ rfl | exact H.ldL 2 rfl _ rfl | exact H.ldL 3 rfl _ rfl | exact H.ldL 4 rfl _ rfl | exact H.ldL 5 rfl _ rfl | exact H.ldL 6 rfl _ rfl | exact H.ldL 7 rfl _ rfl | exact H.ld0 (by assumption) | assumption | exact H.ldS (by assumption) (by assumption))) ?_
  refine OPS.val rfl rfl rfl (Ev.len (el_run rfl) rfl) ?_
  refine OPS.val rfl rfl rfl (Ev.lss rfl rfl) ?_
  refine OPS.nil ?_
  refine WP.cond rfl (fun hc11 => ?_) (fun hc11 => ?_)
  · have hlt : j < rn.length := by simp at hc11; omega
    obtain ⟨hi0, hi1⟩ := hrr rn[j] (List.getElem_mem hlt)
    obtain ⟨ni, hni⟩ := Int.eq_ofNat_of_zero_le hi0
    have hnl2 : ni < ns.length := by omega
    have hnx := hN.nd ns[ni] (List.getElem_mem hnl2)
    obtain ⟨br, orr, rfl, hx⟩ := hr j hlt
    obtain ⟨bn, on, rfl, hnc⟩ := hn ni hnl2
    rw [hni] at hx
    have hna : needAt ns rn[j] = ns[ni] := by rw [hni]; simp [needAt, hnl2]
    have hgD : goD (roadD m l) ns rn[j] s = roadT m l s.at_ ns[ni].node.toNat := by unfold goD roadD; rw [hna]; simp
    have htk : rn.take (j + 1) = rn.take j ++ [rn[j]] := List.take_succ_eq_append_getElem hlt
    have hE1 : goE (roadD m l) t.cap hd ns (rn.take (j + 1)) (startT t) = visitE (roadT m l s.at_ ns[ni].node.toNat) t.cap ns[ni] s := by
      rw [htk, goE_app, hgE, hgT]
      simp only [goE, hgD, hna]
      by_cases h : visitE (roadT m l s.at_ ns[ni].node.toNat) t.cap ns[ni] s = 0 <;> simp [h]
    refine WP.skip ?_
    refine WP.seq ?_
    refine WP.block ?_
    refine WP.seq ?_
    refine WP.rheldC [17, 52, 53, 54, 55, 56, 57, 58, 59, 60] (fun u w' => ∃ g17 : Nat, u 17 = .pointer (some ⟨g17, 0, none⟩) ∧ SH w0 [] w' ([⟨g17, 56, needCells ns[ni]⟩, ⟨g10, 52, truckCells t⟩, ⟨g3, 35, [I q, .slice (some ⟨br, orr, none⟩) rn.length cr]⟩, ⟨g2, 28, [I m, .slice A l.length ca, .slice (some ⟨bt, ot, none⟩) ts.length cb, .slice (some ⟨bn, on, none⟩) ns.length cc, I hd]⟩] ++ Lo)) mixed H ?_ ?_
    · clear H; intro w hbw13 H
      refine OPH.take 0 rfl rfl rfl rfl (by kernel_rfl) (by kernel_rfl) (by kernel_rfl) rfl (by first | exact H | exact H.drop (List.sublist_cons_self _ _) | exact H.drop ((List.sublist_cons_self _ _).trans (List.sublist_cons_self _ _)) | exact H.drop ((List.sublist_cons_self _ _).trans ((List.sublist_cons_self _ _).trans (List.sublist_cons_self _ _))) | exact H.drop ((List.sublist_cons_self _ _).trans ((List.sublist_cons_self _ _).trans ((List.sublist_cons_self _ _).trans (List.sublist_cons_self _ _)))) | exact H.drop ((List.sublist_cons_self _ _).trans ((List.sublist_cons_self _ _).trans ((List.sublist_cons_self _ _).trans ((List.sublist_cons_self _ _).trans (List.sublist_cons_self _ _)))))) (fun w H => Ev.fieldAddr (fld_run rfl) rfl) ?_
      refine OPH.take 1 rfl rfl rfl rfl (by kernel_rfl) (by kernel_rfl) (by kernel_rfl) rfl (by first | exact H | exact H.drop (List.sublist_cons_self _ _) | exact H.drop ((List.sublist_cons_self _ _).trans (List.sublist_cons_self _ _)) | exact H.drop ((List.sublist_cons_self _ _).trans ((List.sublist_cons_self _ _).trans (List.sublist_cons_self _ _))) | exact H.drop ((List.sublist_cons_self _ _).trans ((List.sublist_cons_self _ _).trans ((List.sublist_cons_self _ _).trans (List.sublist_cons_self _ _)))) | exact H.drop ((List.sublist_cons_self _ _).trans ((List.sublist_cons_self _ _).trans ((List.sublist_cons_self _ _).trans ((List.sublist_cons_self _ _).trans (List.sublist_cons_self _ _)))))) (fun w H => Ev.load1 (agg_run rfl) rfl (by first | exact H.ldL 0 rfl _ rfl | exact H.ldL 1 rfl _ rfl | exact H.ldL 2 rfl _ rfl | exact H.ldL 3 rfl _ rfl | exact H.ldL 4 rfl _ rfl | exact H.ldL 5 rfl _ rfl | exact H.ldL 6 rfl _ rfl | exact H.ldL 7 rfl _ rfl | exact H.ld0 (by assumption) | assumption | exact H.ldS (by assumption) (by assumption))) ?_
      refine OPH.take 2 rfl rfl rfl rfl (by kernel_rfl) (by kernel_rfl) (by kernel_rfl) rfl (by first | exact H | exact H.drop (List.sublist_cons_self _ _) | exact H.drop ((List.sublist_cons_self _ _).trans (List.sublist_cons_self _ _)) | exact H.drop ((List.sublist_cons_self _ _).trans ((List.sublist_cons_self _ _).trans (List.sublist_cons_self _ _))) | exact H.drop ((List.sublist_cons_self _ _).trans ((List.sublist_cons_self _ _).trans ((List.sublist_cons_self _ _).trans (List.sublist_cons_self _ _)))) | exact H.drop ((List.sublist_cons_self _ _).trans ((List.sublist_cons_self _ _).trans ((List.sublist_cons_self _ _).trans ((List.sublist_cons_self _ _).trans (List.sublist_cons_self _ _)))))) (fun w H => Ev.fieldAddr (fld_run rfl) rfl) ?_
      refine OPH.take 3 rfl rfl rfl rfl (by kernel_rfl) (by kernel_rfl) (by kernel_rfl) rfl (by first | exact H | exact H.drop (List.sublist_cons_self _ _) | exact H.drop ((List.sublist_cons_self _ _).trans (List.sublist_cons_self _ _)) | exact H.drop ((List.sublist_cons_self _ _).trans ((List.sublist_cons_self _ _).trans (List.sublist_cons_self _ _))) | exact H.drop ((List.sublist_cons_self _ _).trans ((List.sublist_cons_self _ _).trans ((List.sublist_cons_self _ _).trans (List.sublist_cons_self _ _)))) | exact H.drop ((List.sublist_cons_self _ _).trans ((List.sublist_cons_self _ _).trans ((List.sublist_cons_self _ _).trans ((List.sublist_cons_self _ _).trans (List.sublist_cons_self _ _)))))) (fun w H => Ev.load1 (agg_run rfl) rfl (by first | exact H.ldL 0 rfl _ rfl | exact H.ldL 1 rfl _ rfl | exact H.ldL 2 rfl _ rfl | exact H.ldL 3 rfl _ rfl | exact H.ldL 4 rfl _ rfl | exact H.ldL 5 rfl _ rfl | exact H.ldL 6 rfl _ rfl | exact H.ldL 7 rfl _ rfl | exact H.ld0 (by assumption) | assumption | exact H.ldS (by assumption) (by assumption))) ?_
      refine OPH.take 4 rfl rfl rfl rfl (by kernel_rfl) (by kernel_rfl) (by kernel_rfl) rfl (by first | exact H | exact H.drop (List.sublist_cons_self _ _) | exact H.drop ((List.sublist_cons_self _ _).trans (List.sublist_cons_self _ _)) | exact H.drop ((List.sublist_cons_self _ _).trans ((List.sublist_cons_self _ _).trans (List.sublist_cons_self _ _))) | exact H.drop ((List.sublist_cons_self _ _).trans ((List.sublist_cons_self _ _).trans ((List.sublist_cons_self _ _).trans (List.sublist_cons_self _ _)))) | exact H.drop ((List.sublist_cons_self _ _).trans ((List.sublist_cons_self _ _).trans ((List.sublist_cons_self _ _).trans ((List.sublist_cons_self _ _).trans (List.sublist_cons_self _ _)))))) (fun w H => Ev.mvI rfl) ?_
      refine OPH.take 5 rfl rfl rfl rfl (by kernel_rfl) (by kernel_rfl) (by kernel_rfl) rfl (by first | exact H | exact H.drop (List.sublist_cons_self _ _) | exact H.drop ((List.sublist_cons_self _ _).trans (List.sublist_cons_self _ _)) | exact H.drop ((List.sublist_cons_self _ _).trans ((List.sublist_cons_self _ _).trans (List.sublist_cons_self _ _))) | exact H.drop ((List.sublist_cons_self _ _).trans ((List.sublist_cons_self _ _).trans ((List.sublist_cons_self _ _).trans (List.sublist_cons_self _ _)))) | exact H.drop ((List.sublist_cons_self _ _).trans ((List.sublist_cons_self _ _).trans ((List.sublist_cons_self _ _).trans ((List.sublist_cons_self _ _).trans (List.sublist_cons_self _ _)))))) (fun w H => (by first | exact Ev.indexAddr1 (el_run rfl) (size_run rfl) rfl rfl rfl (by omega) | exact Ev.indexAddr (el_run rfl) (size_run rfl) rfl rfl rfl (by omega))) ?_
      refine OPH.take 6 rfl rfl rfl rfl (by kernel_rfl) (by kernel_rfl) (by kernel_rfl) rfl (by first | exact H | exact H.drop (List.sublist_cons_self _ _) | exact H.drop ((List.sublist_cons_self _ _).trans (List.sublist_cons_self _ _)) | exact H.drop ((List.sublist_cons_self _ _).trans ((List.sublist_cons_self _ _).trans (List.sublist_cons_self _ _))) | exact H.drop ((List.sublist_cons_self _ _).trans ((List.sublist_cons_self _ _).trans ((List.sublist_cons_self _ _).trans (List.sublist_cons_self _ _)))) | exact H.drop ((List.sublist_cons_self _ _).trans ((List.sublist_cons_self _ _).trans ((List.sublist_cons_self _ _).trans ((List.sublist_cons_self _ _).trans (List.sublist_cons_self _ _)))))) (fun w H => Ev.load1 (agg_run rfl) rfl (by first | exact H.ldL 0 rfl _ rfl | exact H.ldL 1 rfl _ rfl | exact H.ldL 2 rfl _ rfl | exact H.ldL 3 rfl _ rfl | exact H.ldL 4 rfl _ rfl | exact H.ldL 5 rfl _ rfl | exact H.ldL 6 rfl _ rfl | exact H.ldL 7 rfl _ rfl | exact H.ld0 (by assumption) | assumption | exact H.ldS (by assumption) (by assumption))) ?_
      refine OPH.take 7 rfl rfl rfl rfl (by kernel_rfl) (by kernel_rfl) (by kernel_rfl) rfl (by first | exact H | exact H.drop (List.sublist_cons_self _ _) | exact H.drop ((List.sublist_cons_self _ _).trans (List.sublist_cons_self _ _)) | exact H.drop ((List.sublist_cons_self _ _).trans ((List.sublist_cons_self _ _).trans (List.sublist_cons_self _ _))) | exact H.drop ((List.sublist_cons_self _ _).trans ((List.sublist_cons_self _ _).trans ((List.sublist_cons_self _ _).trans (List.sublist_cons_self _ _)))) | exact H.drop ((List.sublist_cons_self _ _).trans ((List.sublist_cons_self _ _).trans ((List.sublist_cons_self _ _).trans ((List.sublist_cons_self _ _).trans (List.sublist_cons_self _ _)))))) (fun w H => (by first | exact Ev.indexAddr1 (el_run rfl) (size_run rfl) rfl rfl rfl (by omega) | exact Ev.indexAddr (el_run rfl) (size_run rfl) rfl rfl rfl (by omega))) ?_
      refine OPH.take 8 rfl rfl rfl rfl (by kernel_rfl) (by kernel_rfl) (by kernel_rfl) rfl (by first | exact H | exact H.drop (List.sublist_cons_self _ _) | exact H.drop ((List.sublist_cons_self _ _).trans (List.sublist_cons_self _ _)) | exact H.drop ((List.sublist_cons_self _ _).trans ((List.sublist_cons_self _ _).trans (List.sublist_cons_self _ _))) | exact H.drop ((List.sublist_cons_self _ _).trans ((List.sublist_cons_self _ _).trans ((List.sublist_cons_self _ _).trans (List.sublist_cons_self _ _)))) | exact H.drop ((List.sublist_cons_self _ _).trans ((List.sublist_cons_self _ _).trans ((List.sublist_cons_self _ _).trans ((List.sublist_cons_self _ _).trans (List.sublist_cons_self _ _)))))) (fun w H => (by first | exact Ev.loadO 0 H rfl (agg_run rfl) (size_run rfl) (by first | assumption | rfl) rfl | exact Ev.loadO 1 H rfl (agg_run rfl) (size_run rfl) (by first | assumption | rfl) rfl | exact Ev.loadO 2 H rfl (agg_run rfl) (size_run rfl) (by first | assumption | rfl) rfl | exact Ev.loadO 3 H rfl (agg_run rfl) (size_run rfl) (by first | assumption | rfl) rfl | exact Ev.loadO 4 H rfl (agg_run rfl) (size_run rfl) (by first | assumption | rfl) rfl | exact Ev.loadO 5 H rfl (agg_run rfl) (size_run rfl) (by first | assumption | rfl) rfl | exact Ev.loadO 6 H rfl (agg_run rfl) (size_run rfl) (by first | assumption | rfl) rfl | (change Ev _ _ _ _ (Op.load 56 (Operand.tmp 59)) _; (refine Ev.loadN (b := bn) (o := on + ni * 2) (needCells ns[ni]) ?_ ?_ ?_ (cellsAt_sh H hnc); exact agg_run rfl; exact size_run rfl; rfl)))) ?_
      refine OPH.all [9] (by kernel_rfl) (by simp) rfl ?_
      intro i hi; simp only [List.mem_cons, List.not_mem_nil, or_false] at hi
      rcases hi with rfl
      · refine ⟨_, rfl, ?_⟩
        refine OPS.alloc rfl rfl rfl rfl (zero_run rfl) rfl H ?_
        clear H; intro g17 w H
        refine OPS.nil ?_
        refine ⟨(by first | exact H | exact H.drop (List.sublist_cons_self _ _) | exact H.drop ((List.sublist_cons_self _ _).trans (List.sublist_cons_self _ _)) | exact H.drop ((List.sublist_cons_self _ _).trans ((List.sublist_cons_self _ _).trans (List.sublist_cons_self _ _))) | exact H.drop ((List.sublist_cons_self _ _).trans ((List.sublist_cons_self _ _).trans ((List.sublist_cons_self _ _).trans (List.sublist_cons_self _ _)))) | exact H.drop ((List.sublist_cons_self _ _).trans ((List.sublist_cons_self _ _).trans ((List.sublist_cons_self _ _).trans ((List.sublist_cons_self _ _).trans (List.sublist_cons_self _ _)))))), ?_⟩
        refine OPH.all [10] (by kernel_rfl) (by simp) rfl ?_
        intro i hi; simp only [List.mem_cons, List.not_mem_nil, or_false] at hi
        rcases hi with rfl
        · refine ⟨_, rfl, ?_⟩
          first | refine OPS.store 0 _ rfl rfl rfl (size_run rfl) rfl (cA rfl) rfl rfl H rfl (by simp) ?_ | refine OPS.store 1 _ rfl rfl rfl (size_run rfl) rfl (cA rfl) rfl rfl H rfl (by simp) ?_ | refine OPS.store 2 _ rfl rfl rfl (size_run rfl) rfl (cA rfl) rfl rfl H rfl (by simp) ?_ | refine OPS.store 3 _ rfl rfl rfl (size_run rfl) rfl (cA rfl) rfl rfl H rfl (by simp) ?_ | refine OPS.store 4 _ rfl rfl rfl (size_run rfl) rfl (cA rfl) rfl rfl H rfl (by simp) ?_ | refine OPS.store 5 _ rfl rfl rfl (size_run rfl) rfl (cA rfl) rfl rfl H rfl (by simp) ?_ | refine OPS.store 6 _ rfl rfl rfl (size_run rfl) rfl (cA rfl) rfl rfl H rfl (by simp) ?_ | refine OPS.store 7 _ rfl rfl rfl (size_run rfl) rfl (cA rfl) rfl rfl H rfl (by simp) ?_ | refine OPS.store 8 _ rfl rfl rfl (size_run rfl) rfl (cA rfl) rfl rfl H rfl (by simp) ?_
          clear H; intro w H; try simp only [List.set_cons_zero, List.set_cons_succ, putL, Nat.zero_add] at H
          refine OPS.nil ?_
          refine ⟨(by first | exact H | exact H.drop (List.sublist_cons_self _ _) | exact H.drop ((List.sublist_cons_self _ _).trans (List.sublist_cons_self _ _)) | exact H.drop ((List.sublist_cons_self _ _).trans ((List.sublist_cons_self _ _).trans (List.sublist_cons_self _ _))) | exact H.drop ((List.sublist_cons_self _ _).trans ((List.sublist_cons_self _ _).trans ((List.sublist_cons_self _ _).trans (List.sublist_cons_self _ _)))) | exact H.drop ((List.sublist_cons_self _ _).trans ((List.sublist_cons_self _ _).trans ((List.sublist_cons_self _ _).trans ((List.sublist_cons_self _ _).trans (List.sublist_cons_self _ _)))))), ?_⟩
          refine OPH.done (by kernel_rfl) ?_
          exact ⟨(by repeat (first | exact Agree.refl _ _ | exact Agree.mix _ _ _ | refine Agree.upd rfl ?_ | refine Agree.mix2 rfl ?_)), g17, rfl, H⟩
    clear H
    rintro u w ⟨g17, h17, H⟩
    refine WP.know (t := 17) h17 ?_
    refine WP.seq ?_
    refine WP.region ?_
    refine OPS.val rfl rfl rfl (Ev.fieldAddr (fld_run rfl) rfl) ?_
    refine OPS.val rfl rfl rfl ((by first | exact Ev.loadO 0 H rfl (agg_run rfl) (size_run rfl) (by first | assumption | rfl) rfl | exact Ev.loadO 1 H rfl (agg_run rfl) (size_run rfl) (by first | assumption | rfl) rfl | exact Ev.loadO 2 H rfl (agg_run rfl) (size_run rfl) (by first | assumption | rfl) rfl | exact Ev.loadO 3 H rfl (agg_run rfl) (size_run rfl) (by first | assumption | rfl) rfl | exact Ev.loadO 4 H rfl (agg_run rfl) (size_run rfl) (by first | assumption | rfl) rfl | exact Ev.loadO 5 H rfl (agg_run rfl) (size_run rfl) (by first | assumption | rfl) rfl | exact Ev.loadO 6 H rfl (agg_run rfl) (size_run rfl) (by first | assumption | rfl) rfl | (change Ev _ _ _ _ (Op.load 24 (Operand.tmp 62)) _; exact Ev.loadN [I m, .slice A l.length ca] (agg_run rfl) (size_run rfl) rfl ⟨H.ldL 3 rfl 0 rfl, H.ldL 3 rfl 1 rfl, trivial⟩))) ?_
    refine OPS.val rfl rfl rfl (Ev.mvI rfl) ?_
    refine OPS.call (d := some 65) rfl rfl rfl (EvC.func (fun_run rfl)) (r8Times m s.at_ A l ca w (hz.sh H)) ?_
    rintro _ w ⟨TA, Lc, rfl, hOL, Hc⟩
    refine ⟨_, rfl, ?_⟩
    replace H := SH.call (Lv := []) (by rw [List.append_nil]; exact H) Hc
    clear Hc
    obtain ⟨hte, htl'⟩ := timesOf_ok hN.road hS.at_
    have htn := timesL_length m l s.at_
    rw [htl'] at hOL
    obtain ⟨v, hv⟩ := Int.eq_ofNat_of_zero_le hnx.1.1
    have hvm : v < m := by omega
    have hvT : ns[ni].node.toNat = v := by omega
    have hbd := roadT_bd hN.road hS.at_ hvm
    have hcd : needCells ns[ni] = [I v, I ns[ni].move] := by unfold needCells; rw [hv]
    rw [hcd] at H
    have hvl : v < (timesOf m l s.at_).length := by rw [htl']; omega
    have htv : (timesL m l s.at_)[v]'(by omega) = roadT m l s.at_ v := timesL_at (by omega)
    have hx0 := hOL.rd H (fun b hb => List.mem_append_right _ hb)
    obtain ⟨bT, oT, rfl, _⟩ := hx0 v (by omega)
    have hxv := hx0.atK (show v < (timesL m l s.at_).length by omega)
    rw [htv] at hxv
    rw [hvT] at hE1
    have hxa : 0 ≤ absI ns[ni].move ∧ absI ns[ni].move ≤ 32 := by unfold absI; split <;> omega
    have hmul2 : 0 ≤ (if ns[ni].move < -ns[ni].move then -ns[ni].move else ns[ni].move) * hd ∧ (if ns[ni].move < -ns[ni].move then -ns[ni].move else ns[ni].move) * hd ≤ 115200 := by
      refine ⟨Int.mul_nonneg hxa.1 hh.1, ?_⟩
      calc absI ns[ni].move * hd ≤ 32 * hd := Int.mul_le_mul_of_nonneg_right hxa.2 hh.1
        _ ≤ 115200 := by omega
    refine OPS.val rfl rfl rfl (Ev.mvT rfl) ?_
    refine OPS.val rfl rfl rfl (Ev.extract rfl rfl) ?_
    refine OPS.val rfl rfl rfl (Ev.extract rfl rfl) ?_
    refine OPS.val rfl rfl rfl (Ev.asS rfl) ?_
    refine OPS.val rfl rfl rfl (Ev.asI rfl) ?_
    refine OPS.nil ?_
    refine WP.seq ?_
    refine WP.seq ?_
    refine WP.region ?_
    refine OPS.val rfl rfl rfl (Ev.mvS rfl) ?_
    refine OPS.val rfl rfl rfl (Ev.fieldAddr (fld_run rfl) rfl) ?_
    refine OPS.val rfl rfl rfl (Ev.load1 (agg_run rfl) rfl (by first | exact H.ldL 0 rfl _ rfl | exact H.ldL 1 rfl _ rfl | exact H.ldL 2 rfl _ rfl | exact H.ldL 3 rfl _ rfl | exact H.ldL 4 rfl _ rfl | exact H.ldL 5 rfl _ rfl | exact H.ldL 6 rfl _ rfl | exact H.ldL 7 rfl _ rfl | exact H.ld0 (by assumption) | assumption | exact H.ldS (by assumption) (by assumption))) ?_
    refine OPS.val rfl rfl rfl ((by first | exact Ev.indexAddr1 (el_run rfl) (size_run rfl) rfl rfl rfl (by omega) | exact Ev.indexAddr (el_run rfl) (size_run rfl) rfl rfl rfl (by omega))) ?_
    refine OPS.val rfl rfl rfl (Ev.load1 (agg_run rfl) rfl (by first | exact H.ldL 0 rfl _ rfl | exact H.ldL 1 rfl _ rfl | exact H.ldL 2 rfl _ rfl | exact H.ldL 3 rfl _ rfl | exact H.ldL 4 rfl _ rfl | exact H.ldL 5 rfl _ rfl | exact H.ldL 6 rfl _ rfl | exact H.ldL 7 rfl _ rfl | exact H.ld0 (by assumption) | assumption | exact H.ldS (by assumption) (by assumption))) ?_
    refine OPS.val rfl rfl rfl (Ev.lss rfl rfl) ?_
    refine OPS.nil ?_
    refine WP.cond rfl (fun hc15 => ?_) (fun hc15 => ?_)
    · refine WP.seq ?_
      refine WP.region ?_
      refine OPS.val rfl rfl rfl (Ev.asS rfl) ?_
      refine OPS.val rfl rfl rfl (Ev.asI rfl) ?_
      refine OPS.val rfl rfl rfl (Ev.asI rfl) ?_
      refine OPS.val rfl rfl rfl (Ev.asI rfl) ?_
      refine OPS.nil ?_
      refine WP.ret ⟨_, rfl, ?_⟩
      have hd0 : roadT m l s.at_ v < 0 := by simpa using hc15
      have hve : visitE (roadT m l s.at_ v) t.cap ns[ni] s = 15 := by rw [visitE, if_pos hd0]
      have hEn := goE_first hE1 (by rw [hve]; decide)
      rw [hve] at hEn
      exact hbad _ _ _ H (by rw [hw, hEn]; rfl) (by decide)
    have hd0 : ¬ roadT m l s.at_ v < 0 := by simpa using hc15
    refine WP.skip ?_
    refine WP.seq ?_
    refine WP.region ?_
    refine OPS.val rfl rfl rfl (Ev.mvI rfl) ?_
    refine OPS.val rfl rfl rfl (Ev.fieldAddr (fld_run rfl) rfl) ?_
    refine OPS.val rfl rfl rfl (Ev.load1 (agg_run rfl) rfl (by first | exact H.ldL 0 rfl _ rfl | exact H.ldL 1 rfl _ rfl | exact H.ldL 2 rfl _ rfl | exact H.ldL 3 rfl _ rfl | exact H.ldL 4 rfl _ rfl | exact H.ldL 5 rfl _ rfl | exact H.ldL 6 rfl _ rfl | exact H.ldL 7 rfl _ rfl | exact H.ld0 (by assumption) | assumption | exact H.ldS (by assumption) (by assumption))) ?_
    refine OPS.val rfl rfl rfl (Ev.add rfl rfl (by unfold fits; omega)) ?_
    refine OPS.val rfl rfl rfl (Ev.asI rfl) ?_
    refine OPS.nil ?_
    refine WP.seq ?_
    refine WP.seq ?_
    refine WP.region ?_
    refine OPS.val rfl rfl rfl (Ev.mvI rfl) ?_
    refine OPS.val rfl rfl rfl (Ev.lss rfl rfl) ?_
    refine OPS.val rfl rfl rfl (Ev.mvB rfl) ?_
    refine OPS.gval rfl rfl rfl rfl rfl (fun hg => Ev.mvI (by first | rfl | exact gvE hg rfl)) ?_
    refine OPS.gval rfl rfl rfl rfl rfl (fun hg => Ev.fieldAddr (fld_run rfl) (by first | rfl | exact gvE hg rfl)) ?_
    refine OPS.gval rfl rfl rfl rfl rfl (fun hg => Ev.load1 (agg_run rfl) (by first | rfl | exact gvE hg rfl) (by first | exact H.ldL 0 rfl _ rfl | exact H.ldL 1 rfl _ rfl | exact H.ldL 2 rfl _ rfl | exact H.ldL 3 rfl _ rfl | exact H.ldL 4 rfl _ rfl | exact H.ldL 5 rfl _ rfl | exact H.ldL 6 rfl _ rfl | exact H.ldL 7 rfl _ rfl | exact H.ld0 (by assumption) | assumption | exact H.ldS (by assumption) (by assumption))) ?_
    refine OPS.gval rfl rfl rfl rfl rfl (fun hg => Ev.gtr (by first | rfl | exact gvE hg rfl) (by first | rfl | exact gvE hg rfl)) ?_
    refine OPS.val rfl rfl rfl ((by first | exact Ev.pickOr rfl rfl rfl | exact Ev.pickAnd rfl rfl rfl)) ?_
    refine OPS.nil ?_
    refine WP.cond rfl (fun hc18 => ?_) (fun hc18 => ?_)
    · refine WP.seq ?_
      refine WP.region ?_
      refine OPS.val rfl rfl rfl (Ev.asS rfl) ?_
      refine OPS.val rfl rfl rfl (Ev.asI rfl) ?_
      refine OPS.val rfl rfl rfl (Ev.asI rfl) ?_
      refine OPS.val rfl rfl rfl (Ev.asI rfl) ?_
      refine OPS.nil ?_
      refine WP.ret ⟨_, rfl, ?_⟩
      have hnb : ¬ inB (s.load + ns[ni].move) 0 t.cap = true := by simp [inB]; simp at hc18; omega
      have hve : visitE (roadT m l s.at_ v) t.cap ns[ni] s = 24 := by rw [visitE, if_neg hd0, if_neg hnb]
      have hEn := goE_first hE1 (by rw [hve]; decide)
      rw [hve] at hEn
      exact hbad _ _ _ H (by rw [hw, hEn]; rfl) (by decide)
    have hnb : inB (s.load + ns[ni].move) 0 t.cap = true := by simp [inB]; simp at hc18; omega
    have hve : visitE (roadT m l s.at_ v) t.cap ns[ni] s = 0 := by rw [visitE, if_neg hd0, if_pos hnb]
    refine WP.skip ?_
    refine WP.seq ?_
    refine WP.region ?_
    refine OPS.val rfl rfl rfl (Ev.mvI rfl) ?_
    refine OPS.val rfl rfl rfl (Ev.mvS rfl) ?_
    refine OPS.val rfl rfl rfl (Ev.fieldAddr (fld_run rfl) rfl) ?_
    refine OPS.val rfl rfl rfl (Ev.load1 (agg_run rfl) rfl (by first | exact H.ldL 0 rfl _ rfl | exact H.ldL 1 rfl _ rfl | exact H.ldL 2 rfl _ rfl | exact H.ldL 3 rfl _ rfl | exact H.ldL 4 rfl _ rfl | exact H.ldL 5 rfl _ rfl | exact H.ldL 6 rfl _ rfl | exact H.ldL 7 rfl _ rfl | exact H.ld0 (by assumption) | assumption | exact H.ldS (by assumption) (by assumption))) ?_
    refine OPS.val rfl rfl rfl ((by first | exact Ev.indexAddr1 (el_run rfl) (size_run rfl) rfl rfl rfl (by omega) | exact Ev.indexAddr (el_run rfl) (size_run rfl) rfl rfl rfl (by omega))) ?_
    refine OPS.val rfl rfl rfl (Ev.load1 (agg_run rfl) rfl (by first | exact H.ldL 0 rfl _ rfl | exact H.ldL 1 rfl _ rfl | exact H.ldL 2 rfl _ rfl | exact H.ldL 3 rfl _ rfl | exact H.ldL 4 rfl _ rfl | exact H.ldL 5 rfl _ rfl | exact H.ldL 6 rfl _ rfl | exact H.ldL 7 rfl _ rfl | exact H.ld0 (by assumption) | assumption | exact H.ldS (by assumption) (by assumption))) ?_
    refine OPS.val rfl rfl rfl (Ev.add rfl rfl (by unfold fits; omega)) ?_
    refine OPS.val rfl rfl rfl (Ev.asI rfl) ?_
    refine OPS.nil ?_
    refine WP.seq ?_
    refine WP.region ?_
    refine OPS.val rfl rfl rfl (Ev.mvI rfl) ?_
    refine OPS.val rfl rfl rfl (Ev.fieldAddr (fld_run rfl) rfl) ?_
    refine OPS.val rfl rfl rfl (Ev.load1 (agg_run rfl) rfl (by first | exact H.ldL 0 rfl _ rfl | exact H.ldL 1 rfl _ rfl | exact H.ldL 2 rfl _ rfl | exact H.ldL 3 rfl _ rfl | exact H.ldL 4 rfl _ rfl | exact H.ldL 5 rfl _ rfl | exact H.ldL 6 rfl _ rfl | exact H.ldL 7 rfl _ rfl | exact H.ld0 (by assumption) | assumption | exact H.ldS (by assumption) (by assumption))) ?_
    refine OPS.val rfl rfl rfl (Ev.fieldAddr (fld_run rfl) rfl) ?_
    refine OPS.val rfl rfl rfl (Ev.load1 (agg_run rfl) rfl (by first | exact H.ldL 0 rfl _ rfl | exact H.ldL 1 rfl _ rfl | exact H.ldL 2 rfl _ rfl | exact H.ldL 3 rfl _ rfl | exact H.ldL 4 rfl _ rfl | exact H.ldL 5 rfl _ rfl | exact H.ldL 6 rfl _ rfl | exact H.ldL 7 rfl _ rfl | exact H.ld0 (by assumption) | assumption | exact H.ldS (by assumption) (by assumption))) ?_
    refine OPS.val rfl rfl rfl (Ev.neg rfl (by unfold fits; omega)) ?_
    refine OPS.val rfl rfl rfl (Ev.max rfl rfl) ?_
    refine OPS.val rfl rfl rfl (Ev.fieldAddr (fld_run rfl) rfl) ?_
    refine OPS.val rfl rfl rfl (Ev.load1 (agg_run rfl) rfl (by first | exact H.ldL 0 rfl _ rfl | exact H.ldL 1 rfl _ rfl | exact H.ldL 2 rfl _ rfl | exact H.ldL 3 rfl _ rfl | exact H.ldL 4 rfl _ rfl | exact H.ldL 5 rfl _ rfl | exact H.ldL 6 rfl _ rfl | exact H.ldL 7 rfl _ rfl | exact H.ld0 (by assumption) | assumption | exact H.ldS (by assumption) (by assumption))) ?_
    refine OPS.val rfl rfl rfl (Ev.mul rfl rfl (by unfold fits; omega)) ?_
    refine OPS.val rfl rfl rfl (Ev.add rfl rfl (by unfold fits; omega)) ?_
    refine OPS.val rfl rfl rfl (Ev.asI rfl) ?_
    refine OPS.nil ?_
    refine WP.seq ?_
    refine WP.rstill mixed (by kernel_rfl) H ?_
    clear H; intro w hbw22 H
    refine OPS.val rfl rfl rfl (Ev.fieldAddr (fld_run rfl) rfl) ?_
    refine OPS.val rfl rfl rfl (Ev.load1 (agg_run rfl) rfl (by first | exact H.ldL 0 rfl _ rfl | exact H.ldL 1 rfl _ rfl | exact H.ldL 2 rfl _ rfl | exact H.ldL 3 rfl _ rfl | exact H.ldL 4 rfl _ rfl | exact H.ldL 5 rfl _ rfl | exact H.ldL 6 rfl _ rfl | exact H.ldL 7 rfl _ rfl | exact H.ld0 (by assumption) | assumption | exact H.ldS (by assumption) (by assumption))) ?_
    refine OPS.val rfl rfl rfl (Ev.mvI rfl) ?_
    refine OPS.val rfl rfl rfl (Ev.mvS rfl) ?_
    refine OPS.val rfl rfl rfl (Ev.fieldAddr (fld_run rfl) rfl) ?_
    refine OPS.val rfl rfl rfl (Ev.load1 (agg_run rfl) rfl (by first | exact H.ldL 0 rfl _ rfl | exact H.ldL 1 rfl _ rfl | exact H.ldL 2 rfl _ rfl | exact H.ldL 3 rfl _ rfl | exact H.ldL 4 rfl _ rfl | exact H.ldL 5 rfl _ rfl | exact H.ldL 6 rfl _ rfl | exact H.ldL 7 rfl _ rfl | exact H.ld0 (by assumption) | assumption | exact H.ldS (by assumption) (by assumption))) ?_
    refine OPS.val rfl rfl rfl ((by first | exact Ev.indexAddr1 (el_run rfl) (size_run rfl) rfl rfl rfl (by omega) | exact Ev.indexAddr (el_run rfl) (size_run rfl) rfl rfl rfl (by omega))) ?_
    replace hxv := cell_below hbw22 hxv
    refine OPS.val rfl rfl rfl (Ev.load1 (agg_run rfl) rfl (by first | exact H.ldL 0 rfl _ rfl | exact H.ldL 1 rfl _ rfl | exact H.ldL 2 rfl _ rfl | exact H.ldL 3 rfl _ rfl | exact H.ldL 4 rfl _ rfl | exact H.ldL 5 rfl _ rfl | exact H.ldL 6 rfl _ rfl | exact H.ldL 7 rfl _ rfl | exact H.ld0 (by assumption) | assumption | exact H.ldS (by assumption) (by assumption))) ?_
    refine OPS.val rfl rfl rfl (Ev.add rfl rfl (by unfold fits; omega)) ?_
    refine OPS.val rfl rfl rfl (Ev.asI rfl) ?_
    refine OPS.val rfl rfl rfl (Ev.asI rfl) ?_
    refine OPS.nil_s ?_
    refine WP.region ?_
    refine OPS.val rfl rfl rfl (Ev.mvS rfl) ?_
    refine OPS.val rfl rfl rfl (Ev.fieldAddr (fld_run rfl) rfl) ?_
    refine OPS.val rfl rfl rfl (Ev.load1 (agg_run rfl) rfl (by first | exact H.ldL 0 rfl _ rfl | exact H.ldL 1 rfl _ rfl | exact H.ldL 2 rfl _ rfl | exact H.ldL 3 rfl _ rfl | exact H.ldL 4 rfl _ rfl | exact H.ldL 5 rfl _ rfl | exact H.ldL 6 rfl _ rfl | exact H.ldL 7 rfl _ rfl | exact H.ld0 (by assumption) | assumption | exact H.ldS (by assumption) (by assumption))) ?_
    refine OPS.val rfl rfl rfl (Ev.mvI rfl) ?_
    refine OPS.val rfl rfl rfl ((by first | exact Ev.indexAddr1 (el_run rfl) (size_run rfl) rfl rfl rfl (by omega) | exact Ev.indexAddr (el_run rfl) (size_run rfl) rfl rfl rfl (by omega))) ?_
    refine OPS.val rfl rfl rfl (Ev.load1 (agg_run rfl) rfl (by first | exact H.ldL 0 rfl _ rfl | exact H.ldL 1 rfl _ rfl | exact H.ldL 2 rfl _ rfl | exact H.ldL 3 rfl _ rfl | exact H.ldL 4 rfl _ rfl | exact H.ldL 5 rfl _ rfl | exact H.ldL 6 rfl _ rfl | exact H.ldL 7 rfl _ rfl | exact H.ld0 (by assumption) | assumption | exact H.ldS (by assumption) (by assumption))) ?_
    refine OPS.val rfl rfl rfl (Ev.mvI rfl) ?_
    refine OPS.val rfl rfl rfl (Ev.mvI rfl) ?_
    refine OPS.val rfl rfl rfl (Ev.mvI rfl) ?_
    refine OPS.val rfl rfl rfl (Ev.build (bld_54_0_1_2_3 rfl rfl rfl rfl)) ?_
    refine OPS.buildSlice rfl rfl rfl rfl (bsl_36_1_0 rfl) H ?_
    clear H; intro g123 w H
    refine OPS.append (m := 1) (news := visCells (visitV (roadT m l s.at_ v) hd ni ns[ni] s)) (R := [⟨g123, 54, visCells (visitV (roadT m l s.at_ v) hd ni ns[ni] s)⟩, ⟨g17, 56, [I v, I ns[ni].move]⟩, ⟨g10, 52, truckCells t⟩, ⟨g3, 35, [I q, .slice (some ⟨br, orr, none⟩) rn.length cr]⟩, ⟨g2, 28, [I m, .slice A l.length ca, .slice (some ⟨bt, ot, none⟩) ts.length cb, .slice (some ⟨bn, on, none⟩) ns.length cc, I hd]⟩] ++ Lc) rfl rfl rfl rfl rfl (sl_run rfl) rfl rfl hO rfl (src_own H 0 rfl) rfl (by omega) (by unfold maxLen; omega) H perm5 ?_
    clear H hO; intro V cv Lo w hO H
    refine OPS.val rfl rfl rfl (Ev.asS rfl) ?_
    refine OPS.nil ?_
    refine WP.region ?_
    refine OPS.val rfl rfl rfl (Ev.mvI rfl) ?_
    refine OPS.val rfl rfl rfl (Ev.add rfl rfl (by unfold fits; omega)) ?_
    refine OPS.val rfl rfl rfl (Ev.asI rfl) ?_
    refine OPS.nil ?_
    have hve' : visitE (roadT m l s.at_ ns[ni].node.toNat) t.cap ns[ni] s = 0 := by rw [hvT]; exact hve
    have hS1 := hS.step hN.road hnx hh hve'
    have hT1 : goT (roadD m l) hd ns (rn.take (j + 1)) (startT t) = visitT (roadT m l s.at_ ns[ni].node.toNat) hd ns[ni] s := by rw [htk, goT_app, hgT]; simp only [goT, hgD, hna]
    have hV1 : goV (roadD m l) hd ns (rn.take (j + 1)) (startT t) = goV (roadD m l) hd ns (rn.take j) (startT t) ++ [visitV (roadT m l s.at_ v) hd ni ns[ni] s] := by rw [htk, goV_app, hgT]; (simp only [goV, hgD, hna]; rw [hni, hvT])
    exact ⟨(by repeat (first | exact Agree.refl _ _ | exact Agree.mix _ _ _ | refine Agree.upd rfl ?_ | refine Agree.mix2 rfl ?_)), k - 1, by omega, j + 1, visitT (roadT m l s.at_ ns[ni].node.toNat) hd ns[ni] s, V, cv, Lo, by omega, rfl, rfl, (by show I (v : Int) = I ((ns[ni].node.toNat : Nat) : Int); rw [hvT]), (by rw [hvT]; rfl), rfl, (by rw [hvT]; rfl), (by rw [hV1, List.flatMap_append]; simpa using hO), hT1, (by rw [hE1]; exact hve), hS1, H.drop sub5⟩
  have hj : j = rn.length := by simp at hc11; omega
  subst hj
  rw [List.take_length] at hgT hgE hO
  have hgD2 : roadD m l s.at_ t.depot.toNat = roadT m l s.at_ dv := by unfold roadD; rw [hdv]; simp
  rw [hgE, if_neg (by simp), hgT, hgD2] at hw
  rw [hgT, hgD2] at hwT
  refine WP.exit ?_
  refine XB.hit ?_
  refine WP.seq ?_
  refine WP.region ?_
  refine OPS.val rfl rfl rfl (Ev.fieldAddr (fld_run rfl) rfl) ?_
  refine OPS.val rfl rfl rfl ((by first | exact Ev.loadO 0 H rfl (agg_run rfl) (size_run rfl) (by first | assumption | rfl) rfl | exact Ev.loadO 1 H rfl (agg_run rfl) (size_run rfl) (by first | assumption | rfl) rfl | exact Ev.loadO 2 H rfl (agg_run rfl) (size_run rfl) (by first | assumption | rfl) rfl | exact Ev.loadO 3 H rfl (agg_run rfl) (size_run rfl) (by first | assumption | rfl) rfl | exact Ev.loadO 4 H rfl (agg_run rfl) (size_run rfl) (by first | assumption | rfl) rfl | exact Ev.loadO 5 H rfl (agg_run rfl) (size_run rfl) (by first | assumption | rfl) rfl | exact Ev.loadO 6 H rfl (agg_run rfl) (size_run rfl) (by first | assumption | rfl) rfl | (change Ev _ _ _ _ (Op.load 24 (Operand.tmp 126)) _; exact Ev.loadN [I m, .slice A l.length ca] (agg_run rfl) (size_run rfl) rfl ⟨H.ldL 2 rfl 0 rfl, H.ldL 2 rfl 1 rfl, trivial⟩))) ?_
  refine OPS.val rfl rfl rfl (Ev.mvI rfl) ?_
  refine OPS.call (d := some 129) rfl rfl rfl (EvC.func (fun_run rfl)) (r8Times m s.at_ A l ca w (hz.sh H)) ?_
  rintro _ w ⟨TA, Lc, rfl, hOL, Hc⟩
  refine ⟨_, rfl, ?_⟩
  replace H := SH.call (Lv := []) (by rw [List.append_nil]; exact H) Hc
  clear Hc
  obtain ⟨hte, htl'⟩ := timesOf_ok hN.road hS.at_
  have htn := timesL_length m l s.at_
  rw [htl'] at hOL
  have hvm : dv < m := by omega
  have hbd := roadT_bd hN.road hS.at_ hvm
  have hcd : truckCells t = [I dv, I t.cap, I t.from_, I t.to_] := by unfold truckCells; rw [hdv]
  rw [hcd] at H
  have hvl : dv < (timesOf m l s.at_).length := by rw [htl']; omega
  have htv : (timesL m l s.at_)[dv]'(by omega) = roadT m l s.at_ dv := timesL_at (by omega)
  have hx0 := hOL.rd H (fun b hb => List.mem_append_right _ hb)
  obtain ⟨bT, oT, rfl, _⟩ := hx0 dv (by omega)
  have hxv := hx0.atK (show dv < (timesL m l s.at_).length by omega)
  rw [htv] at hxv
  have hmul : 0 ≤ s.load * hd ∧ s.load * hd ≤ 115200 := by
    refine ⟨Int.mul_nonneg hSl.1 hh.1, ?_⟩
    calc s.load * hd ≤ 32 * hd := Int.mul_le_mul_of_nonneg_right (by omega) hh.1
      _ ≤ 115200 := by omega
  refine OPS.val rfl rfl rfl (Ev.mvT rfl) ?_
  refine OPS.val rfl rfl rfl (Ev.extract rfl rfl) ?_
  refine OPS.val rfl rfl rfl (Ev.extract rfl rfl) ?_
  refine OPS.val rfl rfl rfl (Ev.asS rfl) ?_
  refine OPS.val rfl rfl rfl (Ev.asI rfl) ?_
  refine OPS.nil ?_
  refine WP.seq ?_
  refine WP.seq ?_
  refine WP.region ?_
  refine OPS.val rfl rfl rfl (Ev.mvS rfl) ?_
  refine OPS.val rfl rfl rfl (Ev.fieldAddr (fld_run rfl) rfl) ?_
  refine OPS.val rfl rfl rfl (Ev.load1 (agg_run rfl) rfl (by first | exact H.ldL 0 rfl _ rfl | exact H.ldL 1 rfl _ rfl | exact H.ldL 2 rfl _ rfl | exact H.ldL 3 rfl _ rfl | exact H.ldL 4 rfl _ rfl | exact H.ldL 5 rfl _ rfl | exact H.ldL 6 rfl _ rfl | exact H.ldL 7 rfl _ rfl | exact H.ld0 (by assumption) | assumption | exact H.ldS (by assumption) (by assumption))) ?_
  refine OPS.val rfl rfl rfl ((by first | exact Ev.indexAddr1 (el_run rfl) (size_run rfl) rfl rfl rfl (by omega) | exact Ev.indexAddr (el_run rfl) (size_run rfl) rfl rfl rfl (by omega))) ?_
  refine OPS.val rfl rfl rfl (Ev.load1 (agg_run rfl) rfl (by first | exact H.ldL 0 rfl _ rfl | exact H.ldL 1 rfl _ rfl | exact H.ldL 2 rfl _ rfl | exact H.ldL 3 rfl _ rfl | exact H.ldL 4 rfl _ rfl | exact H.ldL 5 rfl _ rfl | exact H.ldL 6 rfl _ rfl | exact H.ldL 7 rfl _ rfl | exact H.ld0 (by assumption) | assumption | exact H.ldS (by assumption) (by assumption))) ?_
  refine OPS.val rfl rfl rfl (Ev.lss rfl rfl) ?_
  refine OPS.nil ?_
  refine WP.cond rfl (fun hc25 => ?_) (fun hc25 => ?_)
  · refine WP.seq ?_
    refine WP.region ?_
    refine OPS.val rfl rfl rfl (Ev.asS rfl) ?_
    refine OPS.val rfl rfl rfl (Ev.asI rfl) ?_
    refine OPS.val rfl rfl rfl (Ev.asI rfl) ?_
    refine OPS.val rfl rfl rfl (Ev.asI rfl) ?_
    refine OPS.nil ?_
    refine WP.ret ⟨_, rfl, ?_⟩
    have hd0 : roadT m l s.at_ dv < 0 := by simpa using hc25
    exact hbad _ _ _ H (by rw [hw, homeE, if_pos hd0]) (by decide)
  have hd0 : ¬ roadT m l s.at_ dv < 0 := by simpa using hc25
  refine WP.skip ?_
  refine WP.seq ?_
  refine WP.rstill mixed (by kernel_rfl) H ?_
  clear H; intro w hbw27 H
  refine OPS.val rfl rfl rfl (Ev.mvI rfl) ?_
  refine OPS.val rfl rfl rfl (Ev.mvS rfl) ?_
  refine OPS.val rfl rfl rfl (Ev.fieldAddr (fld_run rfl) rfl) ?_
  refine OPS.val rfl rfl rfl (Ev.load1 (agg_run rfl) rfl (by first | exact H.ldL 0 rfl _ rfl | exact H.ldL 1 rfl _ rfl | exact H.ldL 2 rfl _ rfl | exact H.ldL 3 rfl _ rfl | exact H.ldL 4 rfl _ rfl | exact H.ldL 5 rfl _ rfl | exact H.ldL 6 rfl _ rfl | exact H.ldL 7 rfl _ rfl | exact H.ld0 (by assumption) | assumption | exact H.ldS (by assumption) (by assumption))) ?_
  refine OPS.val rfl rfl rfl ((by first | exact Ev.indexAddr1 (el_run rfl) (size_run rfl) rfl rfl rfl (by omega) | exact Ev.indexAddr (el_run rfl) (size_run rfl) rfl rfl rfl (by omega))) ?_
  replace hxv := cell_below hbw27 hxv
  refine OPS.val rfl rfl rfl (Ev.load1 (agg_run rfl) rfl (by first | exact H.ldL 0 rfl _ rfl | exact H.ldL 1 rfl _ rfl | exact H.ldL 2 rfl _ rfl | exact H.ldL 3 rfl _ rfl | exact H.ldL 4 rfl _ rfl | exact H.ldL 5 rfl _ rfl | exact H.ldL 6 rfl _ rfl | exact H.ldL 7 rfl _ rfl | exact H.ld0 (by assumption) | assumption | exact H.ldS (by assumption) (by assumption))) ?_
  refine OPS.val rfl rfl rfl (Ev.add rfl rfl (by unfold fits; omega)) ?_
  refine OPS.val rfl rfl rfl (Ev.mvI rfl) ?_
  refine OPS.val rfl rfl rfl (Ev.fieldAddr (fld_run rfl) rfl) ?_
  refine OPS.val rfl rfl rfl (Ev.load1 (agg_run rfl) rfl (by first | exact H.ldL 0 rfl _ rfl | exact H.ldL 1 rfl _ rfl | exact H.ldL 2 rfl _ rfl | exact H.ldL 3 rfl _ rfl | exact H.ldL 4 rfl _ rfl | exact H.ldL 5 rfl _ rfl | exact H.ldL 6 rfl _ rfl | exact H.ldL 7 rfl _ rfl | exact H.ld0 (by assumption) | assumption | exact H.ldS (by assumption) (by assumption))) ?_
  refine OPS.val rfl rfl rfl (Ev.mul rfl rfl (by unfold fits; omega)) ?_
  refine OPS.val rfl rfl rfl (Ev.add rfl rfl (by unfold fits; omega)) ?_
  refine OPS.val rfl rfl rfl (Ev.mvI rfl) ?_
  refine OPS.val rfl rfl rfl (Ev.mvS rfl) ?_
  refine OPS.val rfl rfl rfl (Ev.fieldAddr (fld_run rfl) rfl) ?_
  refine OPS.val rfl rfl rfl (Ev.load1 (agg_run rfl) rfl (by first | exact H.ldL 0 rfl _ rfl | exact H.ldL 1 rfl _ rfl | exact H.ldL 2 rfl _ rfl | exact H.ldL 3 rfl _ rfl | exact H.ldL 4 rfl _ rfl | exact H.ldL 5 rfl _ rfl | exact H.ldL 6 rfl _ rfl | exact H.ldL 7 rfl _ rfl | exact H.ld0 (by assumption) | assumption | exact H.ldS (by assumption) (by assumption))) ?_
  refine OPS.val rfl rfl rfl ((by first | exact Ev.indexAddr1 (el_run rfl) (size_run rfl) rfl rfl rfl (by omega) | exact Ev.indexAddr (el_run rfl) (size_run rfl) rfl rfl rfl (by omega))) ?_
  refine OPS.val rfl rfl rfl (Ev.load1 (agg_run rfl) rfl (by first | exact H.ldL 0 rfl _ rfl | exact H.ldL 1 rfl _ rfl | exact H.ldL 2 rfl _ rfl | exact H.ldL 3 rfl _ rfl | exact H.ldL 4 rfl _ rfl | exact H.ldL 5 rfl _ rfl | exact H.ldL 6 rfl _ rfl | exact H.ldL 7 rfl _ rfl | exact H.ld0 (by assumption) | assumption | exact H.ldS (by assumption) (by assumption))) ?_
  refine OPS.val rfl rfl rfl (Ev.add rfl rfl (by unfold fits; omega)) ?_
  refine OPS.val rfl rfl rfl (Ev.asI rfl) ?_
  refine OPS.val rfl rfl rfl (Ev.asI rfl) ?_
  refine OPS.nil_s ?_
  refine WP.seq ?_
  refine WP.seq ?_
  refine WP.region ?_
  refine OPS.val rfl rfl rfl (Ev.mvI rfl) ?_
  refine OPS.val rfl rfl rfl (Ev.fieldAddr (fld_run rfl) rfl) ?_
  refine OPS.val rfl rfl rfl (Ev.fieldAddr (fld_run rfl) rfl) ?_
  refine OPS.val rfl rfl rfl (Ev.load1 (agg_run rfl) rfl (by first | exact H.ldL 0 rfl _ rfl | exact H.ldL 1 rfl _ rfl | exact H.ldL 2 rfl _ rfl | exact H.ldL 3 rfl _ rfl | exact H.ldL 4 rfl _ rfl | exact H.ldL 5 rfl _ rfl | exact H.ldL 6 rfl _ rfl | exact H.ldL 7 rfl _ rfl | exact H.ld0 (by assumption) | assumption | exact H.ldS (by assumption) (by assumption))) ?_
  refine OPS.val rfl rfl rfl (Ev.gtr rfl rfl) ?_
  refine OPS.nil ?_
  refine WP.cond rfl (fun hc28 => ?_) (fun hc28 => ?_)
  · refine WP.seq ?_
    refine WP.region ?_
    refine OPS.val rfl rfl rfl (Ev.asS rfl) ?_
    refine OPS.val rfl rfl rfl (Ev.asI rfl) ?_
    refine OPS.val rfl rfl rfl (Ev.asI rfl) ?_
    refine OPS.val rfl rfl rfl (Ev.asI rfl) ?_
    refine OPS.nil ?_
    refine WP.ret ⟨_, rfl, ?_⟩
    have hlt : t.to_ < s.now + roadT m l s.at_ dv + s.load * hd := by simpa using hc28
    exact hbad _ _ _ H (by rw [hw, homeE, if_neg hd0, if_pos hlt]) (by decide)
  refine WP.skip ?_
  refine WP.seq ?_
  refine WP.region ?_
  refine OPS.val rfl rfl rfl (Ev.mvS rfl) ?_
  refine OPS.val rfl rfl rfl (Ev.mvI rfl) ?_
  refine OPS.val rfl rfl rfl (Ev.mvI rfl) ?_
  refine OPS.val rfl rfl rfl (Ev.asS rfl) ?_
  refine OPS.val rfl rfl rfl (Ev.asI rfl) ?_
  refine OPS.val rfl rfl rfl (Ev.asI rfl) ?_
  refine OPS.val rfl rfl rfl (Ev.asI rfl) ?_
  refine OPS.nil ?_
  refine WP.ret ⟨_, rfl, ?_⟩
  have hlt : ¬ t.to_ < s.now + roadT m l s.at_ dv + s.load * hd := by simpa using hc28
  have hE0 : walkE m l ts ns hd q rn = 0 := by rw [hw, homeE, if_neg hd0, if_neg hlt]
  have e1 : outV m l ts ns hd q rn = goV (roadD m l) hd ns rn (startT t) := by rw [outV, if_pos hE0, hwV]
  have e2 : outB' m l ts ns hd q rn = s.now + roadT m l s.at_ dv + s.load * hd := by rw [outB', if_pos hE0, hwT]; rfl
  have e3 : outD m l ts ns hd q rn = s.driven + roadT m l s.at_ dv := by rw [outD, if_pos hE0, hwT]; rfl
  have hvl2 : (goV (roadD m l) hd ns rn (startT t)).length = rn.length := goV_len _ _ _ _ _
  rw [e1, e2, e3, hE0, hvl2]
  exact ⟨V, cv, Lo, rfl, hO, H.drop ((List.sublist_append_right _ _).trans (List.sublist_append_left _ _))⟩
end Go.Proofs.Ytcgicnfjcndedaa
