/-
  Walk: numbers, Proved.
-/
import Derived.Test.YtgjfjbphngamgaaB5
set_option linter.all false
namespace Go.Proofs.Ytgjfjbphngamgaa
open Go Go.W Go.RowKit

def rngB (l : List Int) : Bool := l.all fun x => decide (0 ≤ x) && decide (x ≤ 1125899906842624)
theorem boundNumbers (A : Option Addr) (l : List Int) (cap k : Nat) (w0 : World) (hz : IntsAt w0 A l) (hl : l.length ≤ 1000) :
    Calls Try.prog 31 #[.slice A l.length cap, I k] w0 fun e w' => e = .returned (.bool (rngB l && decide (l.length = k))) ∧ Below w0.heap.size w0 w' := by
  have H := SH.refl w0
  refine Calls.ofWP Try.func31 rfl Try.results31 Try.ntmps31 rfl ?_
  refine WP.seq ?_
  refine WP.region ?_
  refine OPS.val rfl rfl rfl (Ev.asB rfl) ?_
  refine OPS.nil ?_
  refine WP.seq ?_
  refine WP.seq ?_
  refine WP.region ?_
  refine OPS.val rfl rfl rfl (Ev.mvS rfl) ?_
  refine OPS.val rfl rfl rfl (Ev.len (el_run rfl) rfl) ?_
  refine OPS.val rfl rfl rfl (Ev.mvI rfl) ?_
  refine OPS.nil ?_
  refine WP.block ?_
  refine WP.loop [4, 6, 9, 10, 11, 12, 13, 14, 15, 16, 17, 18, 19] (fun k e w' => ∃ j : Nat, j + k = l.length ∧ e 9 = I j ∧ (∀ i (hi : i < l.length), i < j → 0 ≤ l[i] ∧ l[i] ≤ 1125899906842624) ∧ SH w0 [] w' []) (l.length) (⟨0, by omega, rfl, (fun i _ h => absurd h (by omega)), H⟩) ?_
  clear H
  rintro q u w ⟨j, hq, h9, hall, H⟩
  refine WP.know (t := 9) h9 ?_
  refine WP.seq ?_
  refine WP.region ?_
  refine OPS.val rfl rfl rfl (Ev.lss rfl rfl) ?_
  refine OPS.nil ?_
  refine WP.seq ?_
  refine WP.cond rfl (fun hc2 => ?_) (fun hc2 => ?_)
  · have hlt : j < l.length := by simpa using hc2
    obtain ⟨b, o, rfl, hx⟩ := hz j hlt
    refine WP.skip ?_
    refine WP.seq ?_
    refine WP.block ?_
    refine WP.seq ?_
    refine WP.region ?_
    refine OPS.val rfl rfl rfl ((by exact Ev.indexAddr1 (el_run rfl) (size_run rfl) rfl rfl rfl (by omega))) ?_
    refine OPS.val rfl rfl rfl (Ev.load1 (agg_run rfl) rfl (by exact H.ld0 (by assumption))) ?_
    refine OPS.val rfl rfl rfl (Ev.asI rfl) ?_
    refine OPS.nil ?_
    refine WP.seq ?_
    refine WP.region ?_
    refine OPS.val rfl rfl rfl (Ev.mvI rfl) ?_
    refine OPS.val rfl rfl rfl (Ev.lss rfl rfl) ?_
    refine OPS.val rfl rfl rfl (Ev.mvB rfl) ?_
    refine OPS.gval rfl rfl rfl rfl rfl (fun hg => Ev.mvI (by rfl)) ?_
    refine OPS.gval rfl rfl rfl rfl rfl (fun hg => Ev.gtr (by exact gvE hg rfl) (by rfl)) ?_
    refine OPS.val rfl rfl rfl ((by exact Ev.pickOr rfl rfl rfl)) ?_
    refine OPS.nil ?_
    refine WP.cond rfl (fun hc4 => ?_) (fun hc4 => ?_)
    · refine WP.seq ?_
      refine WP.region ?_
      refine OPS.val rfl rfl rfl (Ev.asB rfl) ?_
      refine OPS.nil ?_
      refine WP.ret ⟨_, rfl, ?_⟩
      have hb : ¬ (0 ≤ l[j] ∧ l[j] ≤ 1125899906842624) := by simp at hc4; omega
      have : rngB l = false := by
        unfold rngB; rw [List.all_eq_false]
        exact ⟨l[j], List.getElem_mem hlt, by simpa using fun h => Int.not_le.1 fun h2 => hb ⟨h, h2⟩⟩
      exact ⟨by rw [this]; rfl, H.below⟩
    refine WP.skip ?_
    refine WP.region ?_
    refine OPS.val rfl rfl rfl (Ev.add rfl rfl (by unfold fits; omega)) ?_
    refine OPS.val rfl rfl rfl (Ev.mvI rfl) ?_
    refine OPS.nil ?_
    have hb : 0 ≤ l[j] ∧ l[j] ≤ 1125899906842624 := by simp at hc4; omega
    refine ⟨(by repeat (first | exact Agree.refl _ _ | exact Agree.mix _ _ _ | refine Agree.upd rfl ?_ | refine Agree.mix2 rfl ?_)), q - 1, by omega, j + 1, by omega, rfl, fun i hi hij => ?_, H⟩
    rcases Nat.lt_succ_iff_lt_or_eq.1 hij with h | rfl
    · exact hall i hi h
    · exact hb
  refine WP.exit ?_
  refine XB.hit ?_
  refine WP.seq ?_
  refine WP.region ?_
  refine OPS.val rfl rfl rfl (Ev.mvS rfl) ?_
  refine OPS.val rfl rfl rfl (Ev.len (el_run rfl) rfl) ?_
  refine OPS.val rfl rfl rfl (Ev.mvI rfl) ?_
  refine OPS.val rfl rfl rfl (Ev.eql rfl rfl) ?_
  refine OPS.val rfl rfl rfl (Ev.asB rfl) ?_
  refine OPS.nil ?_
  refine WP.ret ⟨_, rfl, ?_⟩
  have hj : j = l.length := by simp at hc2; omega
  have : rngB l = true := by
    unfold rngB; rw [List.all_eq_true]
    intro x hx
    obtain ⟨i, hi, rfl⟩ := List.mem_iff_getElem.1 hx
    have := hall i hi (by omega)
    simp [this]
  have e : decide ((l.length : Int) = k) = decide (l.length = k) := decide_eq_decide.2 (by omega)
  exact ⟨by rw [this, Bool.true_and, ← e]; rfl, H.below⟩
theorem rngB_at {l : List Int} (h : rngB l = true) (j : Nat) : 0 ≤ l.getD j 0 ∧ l.getD j 0 ≤ 1125899906842624 := by
  by_cases hj : j < l.length
  · have h2 := List.all_eq_true.1 h l[j] (List.getElem_mem hj)
    have e : l.getD j 0 = l[j] := by simp [hj]
    rw [e]
    simp only [Bool.and_eq_true, decide_eq_true_eq] at h2
    exact h2
  · simp [hj]
theorem dn_app : ∀ (D : List Int) (d : Int) (v : Nat → Int), Flo.dn (D ++ [d]) v = Flo.dn D v + d * v D.length
  | [], d, v => by simp [Flo.dn]
  | e :: D, d, v => by
    simp only [List.cons_append, Flo.dn, dn_app D d (fun k => v (k + 1)), List.length_cons]; omega
theorem dn_take {D : List Int} {v : Nat → Int} {j : Nat} (h : j < D.length) : Flo.dn (D.take (j + 1)) v = Flo.dn (D.take j) v + D[j] * v j := by
  rw [List.take_succ_eq_append_getElem h, dn_app, show (D.take j).length = j by simp; omega]
theorem prodB {a b : Int} (ha : 0 ≤ a ∧ a ≤ 32) (hb : 0 ≤ b ∧ b ≤ 1125899906842624) : 0 ≤ a * b ∧ a * b ≤ 36028797018963968 := by
  refine ⟨Int.mul_nonneg ha.1 hb.1, ?_⟩
  have h1 : a * b ≤ 32 * b := Int.mul_le_mul_of_nonneg_right ha.2 hb.1
  generalize a * b = c at *
  omega
/-- what Proved reports -/
structure ProvedP (n : Int) (l : List Edg) (ts : List Truck) (ns : List Need) (hd s b : Int) (us vs : List Int) : Prop where
  err : findErr n l ts ns hd = 0
  bk : b = (movD ns).sum
  un : rngB us = true ∧ us.length = (colN ns).length
  vn : rngB vs = true ∧ vs.length = (briN ns).length
  feas : Flo.Feas 1 (timL n.toNat l ns) (fun j => us.getD j 0) (fun k => vs.getD k 0)
  secs : s = divI (Flo.dn (movD ns) (fun k => vs.getD k 0) - Flo.dn (movC ns) (fun j => us.getD j 0)) (capL ts)
theorem getDx {l : List Int} {j : Nat} (h : j < l.length) : l[j] = l.getD j 0 := by simp [h]
set_option maxRecDepth 20000 in
set_option maxHeartbeats 4000000 in
theorem boundProved (n hd s b : Int) (A B C AU AV : Option Addr) (l : List Edg) (ts : List Truck) (ns : List Need) (us vs : List Int) (ca cb cc cu cv : Nat) (w0 : World) (hN : NightAt w0 A B C l ts ns cc) (hU : IntsAt w0 AU us) (hV : IntsAt w0 AV vs) (hul : us.length ≤ 1000) (hvl : vs.length ≤ 1000) :
    Calls Try.prog 14 #[.agg #[I n, .slice A l.length ca, .slice B ts.length cb, .slice C ns.length cc, I hd], .agg (bndL s b AU us.length cu AV vs.length cv).toArray] w0 fun e w' => ∃ r : Bool, e = .returned (.bool r) ∧ (r = true ↔ ProvedP n l ts ns hd s b us vs) ∧ Below w0.heap.size w0 w' := by
  have H := SH.refl w0
  by_cases h0 : nightErr n l ts ns hd = 0
  · obtain ⟨m, rfl, hK⟩ := nightOk_of h0
    have hX := trans_ok hK
    have hcb := capL_bd hK
    have hfe : findErr m l ts ns hd = solveErr (capL ts) (movC ns) (movD ns) (timL m l ns) := by rw [findErr, if_neg (by simp [h0])]; simp
    refine Calls.ofWP Try.func14 rfl Try.results14 Try.ntmps14 rfl ?_
    refine WP.seq ?_
    refine WP.region ?_
    refine OPS.box rfl rfl rfl rfl (cA rfl) H ?_
    clear H; intro g2 w H
    refine OPS.box rfl rfl rfl rfl (cA rfl) H ?_
    clear H; intro g3 w H
    refine OPS.val rfl rfl rfl (Ev.asB rfl) ?_
    refine OPS.nil ?_
    refine WP.seq ?_
    refine WP.region ?_
    refine OPS.val rfl rfl rfl ((by exact Ev.loadO 1 H rfl (agg_run rfl) (size_run rfl) (by rfl) rfl)) ?_
    refine OPS.call (d := some 18) rfl rfl rfl (EvC.func (fun_run rfl)) (Calls.mono (boundRead m hd A B C l ts ns ca cb cc w (hN.sh H)) fun _ _ h => h.2 h0) ?_
    rintro _ w ⟨m2, Ac, Ab, At, rs, kc, kb, kt, LT, hm2, hrs, hT, rfl, Hc⟩
    refine ⟨_, rfl, ?_⟩
    replace H := SH.call (Lv := []) (by rw [List.append_nil]; exact H) Hc
    clear Hc
    obtain rfl : m = m2 := by omega
    have hTK := task_ok hK hrs
    refine OPS.val rfl rfl rfl (Ev.mvT rfl) ?_
    refine OPS.val rfl rfl rfl (Ev.extract rfl rfl) ?_
    refine OPS.val rfl rfl rfl (Ev.extract rfl rfl) ?_
    refine OPS.alloc rfl rfl rfl rfl (zero_run rfl) rfl H ?_
    clear H; intro g5 w H
    refine OPS.store 0 _ rfl rfl rfl (size_run rfl) rfl (cA rfl) rfl rfl H rfl (by simp) ?_
    clear H; intro w H; try simp only [List.set_cons_zero, List.set_cons_succ, putL, Nat.zero_add] at H
    refine OPS.val rfl rfl rfl (Ev.asI rfl) ?_
    refine OPS.nil ?_
    refine WP.seq ?_
    refine WP.seq ?_
    refine WP.region ?_
    refine OPS.val rfl rfl rfl (Ev.mvI rfl) ?_
    refine OPS.val rfl rfl rfl (Ev.neq rfl rfl) ?_
    refine OPS.nil ?_
    refine WP.cond rfl (fun hc2 => ?_) (fun hc2 => ?_)
    · refine WP.seq ?_
      refine WP.region ?_
      refine OPS.val rfl rfl rfl (Ev.asB rfl) ?_
      refine OPS.nil ?_
      refine WP.ret ⟨_, rfl, ?_⟩
      exact absurd hc2 (by decide)
    refine WP.skip ?_
    refine WP.seq ?_
    refine WP.seq ?_
    refine WP.region ?_
    refine OPS.val rfl rfl rfl ((by exact Ev.loadO 0 H rfl (agg_run rfl) (size_run rfl) (by rfl) rfl)) ?_
    refine OPS.call (d := some 25) rfl rfl rfl (EvC.func (fun_run rfl)) (boundSolveU (C := movC ns) (D := movD ns) (tm := timL m l ns) Ac Ab At (colN ns) (briN ns) rs kc kb kt (capL ts) w (hT.at H (List.sublist_append_right [_, _, _] _)) hTK rfl rfl hrs.symm hX hcb) ?_
    rintro _ w ⟨s2, b2, us2, vs2, AU2, AV2, cu2, cv2, L2, rfl, hbad, hgood, hrd, Hc⟩
    refine ⟨_, rfl, ?_⟩
    replace H := H.toBelow Hc.below
    clear Hc
    refine OPS.val rfl rfl rfl (Ev.mvT rfl) ?_
    refine OPS.val rfl rfl rfl (Ev.extract rfl rfl) ?_
    refine OPS.val rfl rfl rfl (Ev.extract rfl rfl) ?_
    refine OPS.alloc rfl rfl rfl rfl (zero_run rfl) rfl H ?_
    clear H; intro g7 w H
    refine OPS.store 0 _ rfl rfl rfl (size_run rfl) rfl (cA rfl) rfl rfl H rfl (by simp) ?_
    clear H; intro w H; try simp only [List.set_cons_zero, List.set_cons_succ, putL, Nat.zero_add] at H
    refine OPS.val rfl rfl rfl (Ev.asI rfl) ?_
    refine OPS.nil ?_
    refine WP.seq ?_
    refine WP.region ?_
    refine OPS.val rfl rfl rfl (Ev.mvI rfl) ?_
    refine OPS.val rfl rfl rfl (Ev.neq rfl rfl) ?_
    refine OPS.val rfl rfl rfl (Ev.mvB rfl) ?_
    refine OPS.gval rfl rfl rfl rfl rfl (fun hg => Ev.fieldAddr (fld_run rfl) (by rfl)) ?_
    refine OPS.gval rfl rfl rfl rfl rfl (fun hg => Ev.load1 (agg_run rfl) (by exact gvE hg rfl) (by exact H.ldL 2 rfl _ rfl)) ?_
    refine OPS.gval rfl rfl rfl rfl rfl (fun hg => Ev.fieldAddr (fld_run rfl) (by rfl)) ?_
    refine OPS.gval rfl rfl rfl rfl rfl (fun hg => Ev.load1 (agg_run rfl) (by exact gvE hg rfl) (by exact H.ldL 1 rfl _ rfl)) ?_
    refine OPS.gval rfl rfl rfl rfl rfl (fun hg => Ev.neq (by exact gvE hg rfl) (by exact gvE hg rfl)) ?_
    refine OPS.val rfl rfl rfl ((by exact Ev.pickOr rfl rfl rfl)) ?_
    refine OPS.val rfl rfl rfl (Ev.mvB rfl) ?_
    refine OPS.gval rfl rfl rfl rfl rfl (fun hg => Ev.fieldAddr (fld_run rfl) (by rfl)) ?_
    refine OPS.gval rfl rfl rfl rfl rfl (fun hg => Ev.load1 (agg_run rfl) (by exact gvE hg rfl) (by exact H.ldL 2 rfl _ rfl)) ?_
    refine OPS.gval rfl rfl rfl rfl rfl (fun hg => Ev.fieldAddr (fld_run rfl) (by rfl)) ?_
    refine OPS.gval rfl rfl rfl rfl rfl (fun hg => Ev.load1 (agg_run rfl) (by exact gvE hg rfl) (by exact H.ldL 1 rfl _ rfl)) ?_
    refine OPS.gval rfl rfl rfl rfl rfl (fun hg => Ev.len (el_run rfl) (by exact gvE hg rfl)) ?_
    refine OPS.gcall0 (f := 31) (boundNumbers AU us cu (colN ns).length w (hU.sh H) hul) (fun _ _ h => h) rfl rfl rfl rfl rfl (fun hg => EvC.conv (EvC.func (fun_run rfl)) (l2 (by exact gvE hg rfl) (by exact gvE hg rfl))) ?_
    intro w hbc; replace H := H.toBelow hbc
    refine OPS.gval rfl rfl rfl rfl rfl (fun hg => Ev.not (by exact gvE hg rfl)) ?_
    refine OPS.val rfl rfl rfl ((by exact Ev.pickOr rfl rfl rfl)) ?_
    refine OPS.val rfl rfl rfl (Ev.mvB rfl) ?_
    refine OPS.gval rfl rfl rfl rfl rfl (fun hg => Ev.fieldAddr (fld_run rfl) (by rfl)) ?_
    refine OPS.gval rfl rfl rfl rfl rfl (fun hg => Ev.load1 (agg_run rfl) (by exact gvE hg rfl) (by exact H.ldL 2 rfl _ rfl)) ?_
    refine OPS.gval rfl rfl rfl rfl rfl (fun hg => Ev.fieldAddr (fld_run rfl) (by rfl)) ?_
    refine OPS.gval rfl rfl rfl rfl rfl (fun hg => Ev.load1 (agg_run rfl) (by exact gvE hg rfl) (by exact H.ldL 1 rfl _ rfl)) ?_
    refine OPS.gval rfl rfl rfl rfl rfl (fun hg => Ev.len (el_run rfl) (by exact gvE hg rfl)) ?_
    refine OPS.gcall0 (f := 31) (boundNumbers AV vs cv (briN ns).length w (hV.sh H) hvl) (fun _ _ h => h) rfl rfl rfl rfl rfl (fun hg => EvC.conv (EvC.func (fun_run rfl)) (l2 (by exact gvE hg rfl) (by exact gvE hg rfl))) ?_
    intro w hbc; replace H := H.toBelow hbc
    refine OPS.gval rfl rfl rfl rfl rfl (fun hg => Ev.not (by exact gvE hg rfl)) ?_
    refine OPS.val rfl rfl rfl ((by exact Ev.pickOr rfl rfl rfl)) ?_
    refine OPS.nil ?_
    refine WP.cond rfl (fun hc5 => ?_) (fun hc5 => ?_)
    · refine WP.seq ?_
      refine WP.region ?_
      refine OPS.val rfl rfl rfl (Ev.asB rfl) ?_
      refine OPS.nil ?_
      refine WP.ret ⟨_, rfl, ?_⟩
      refine ⟨false, rfl, ⟨(fun h => by cases h), fun hp => ?_⟩, H.below⟩
      rw [← hfe, hp.err, hp.bk, hp.un.1, hp.un.2, hp.vn.1, hp.vn.2] at hc5
      simp at hc5
    obtain ⟨⟨⟨q1, q2⟩, q3, q4⟩, q5, q6⟩ : ((solveErr (capL ts) (movC ns) (movD ns) (timL m l ns) = 0 ∧ b = (movD ns).sum) ∧ rngB us = true ∧ us.length = (colN ns).length) ∧ rngB vs = true ∧ vs.length = (briN ns).length := by simpa using hc5
    obtain ⟨T, hsol, _, _, hcp1⟩ := hgood q1
    clear hgood hbad hrd
    have hl1 : (colN ns).length ≤ ns.length := List.length_filter_le _ _
    have hl2 : (briN ns).length ≤ ns.length := List.length_filter_le _ _
    have hnl := hK.nl
    have hCl : (movC ns).length = (colN ns).length := by simp [movC]
    have hDl : (movD ns).length = (briN ns).length := by simp [movD]
    have hrl := hTK.rl
    have hub := rngB_at q3
    have hvb := rngB_at q5
    have hLT : ∀ w, SH w0 [] w ([⟨g7, 33, bndL s2 b2 AU2 us2.length cu2 AV2 vs2.length cv2⟩, ⟨g5, 60, tskC Ac Ab At (colN ns).length (briN ns).length rs.length kc kb kt (capL ts) (movC ns).sum (movD ns).sum⟩, ⟨g3, 33, bndL s b AU us.length cu AV vs.length cv⟩, ⟨g2, 28, [I m, .slice A l.length ca, .slice B ts.length cb, .slice C ns.length cc, I hd]⟩] ++ LT) → TaskAt w Ac Ab At (colN ns) (briN ns) rs := fun w H => hT.at H (List.sublist_append_right _ _)
    obtain ⟨u, hu⟩ : ∃ u : Nat → Int, u = fun j => us.getD j 0 := ⟨_, rfl⟩
    obtain ⟨v, hv⟩ : ∃ v : Nat → Int, v = fun j => vs.getD j 0 := ⟨_, rfl⟩
    have hub2 : ∀ j, 0 ≤ u j ∧ u j ≤ 1125899906842624 := fun j => by rw [hu]; exact hub j
    have hvb2 : ∀ j, 0 ≤ v j ∧ v j ≤ 1125899906842624 := fun j => by rw [hv]; exact hvb j
    have hug : ∀ j (h : j < us.length), us[j] = u j := fun j h => by rw [hu]; exact getDx h
    have hvg : ∀ j (h : j < vs.length), vs[j] = v j := fun j h => by rw [hv]; exact getDx h
    have hno : ∀ w, SH w0 [] w ([⟨g7, 33, bndL s2 b2 AU2 us2.length cu2 AV2 vs2.length cv2⟩, ⟨g5, 60, tskC Ac Ab At (colN ns).length (briN ns).length rs.length kc kb kt (capL ts) (movC ns).sum (movD ns).sum⟩, ⟨g3, 33, bndL s b AU us.length cu AV vs.length cv⟩, ⟨g2, 28, [I m, .slice A l.length ca, .slice B ts.length cb, .slice C ns.length cc, I hd]⟩] ++ LT) → (¬ Flo.Feas 1 (timL m l ns) u v) → ∃ r : Bool, Ending.returned (Bo false) = .returned (.bool r) ∧ (r = true ↔ ProvedP m l ts ns hd s b us vs) ∧ Below w0.heap.size w0 w := fun w H hn =>
      ⟨false, rfl, ⟨(fun h => by cases h), fun hp => absurd (by have := hp.feas; rw [hu, hv]; simpa using this) hn⟩, H.below⟩
    replace H : SH w0 [] w ([⟨g7, 33, bndL s2 b2 AU2 us2.length cu2 AV2 vs2.length cv2⟩, ⟨g5, 60, tskC Ac Ab At (colN ns).length (briN ns).length rs.length kc kb kt (capL ts) (movC ns).sum (movD ns).sum⟩, ⟨g3, 33, bndL s b AU us.length cu AV vs.length cv⟩, ⟨g2, 28, [I m, .slice A l.length ca, .slice B ts.length cb, .slice C ns.length cc, I hd]⟩] ++ LT) := H
    refine WP.skip ?_
    refine WP.seq ?_
    refine WP.region ?_
    refine OPS.val rfl rfl rfl (Ev.asI rfl) ?_
    refine OPS.nil ?_
    refine WP.seq ?_
    refine WP.seq ?_
    refine WP.region ?_
    refine OPS.val rfl rfl rfl (Ev.fieldAddr (fld_run rfl) rfl) ?_
    refine OPS.val rfl rfl rfl (Ev.load1 (agg_run rfl) rfl (by exact H.ldL 1 rfl _ rfl)) ?_
    refine OPS.val rfl rfl rfl (Ev.len (el_run rfl) rfl) ?_
    refine OPS.val rfl rfl rfl (Ev.mvI rfl) ?_
    refine OPS.nil ?_
    refine WP.block ?_
    refine WP.loop [4, 9, 10, 11, 12, 13, 58, 59, 60, 61, 62, 63, 64, 65, 66, 67, 68, 69, 70, 71, 72, 73, 74, 75, 76, 77, 78, 79, 80, 81, 82, 83, 84, 85, 86, 87, 88, 89, 90, 91, 92, 93, 94, 95, 96, 97, 98, 99, 100, 101, 102] (fun k e w' => ∃ (j : Nat) (sm : Int), j + k = (colN ns).length ∧ e 58 = I j ∧ e 9 = I sm ∧ sm = -Flo.dn ((movC ns).take j) u ∧ (-(36028797018963968 * (j : Int)) ≤ sm ∧ sm ≤ 0) ∧ (∀ i, i < j → ∀ k x, Flo.tmAt (timL m l ns) i k = some x → 0 ≤ x → v k ≤ u i + 1 * x) ∧ SH w0 [] w' ([⟨g7, 33, bndL s2 b2 AU2 us2.length cu2 AV2 vs2.length cv2⟩, ⟨g5, 60, tskC Ac Ab At (colN ns).length (briN ns).length rs.length kc kb kt (capL ts) (movC ns).sum (movD ns).sum⟩, ⟨g3, 33, bndL s b AU us.length cu AV vs.length cv⟩, ⟨g2, 28, [I m, .slice A l.length ca, .slice B ts.length cb, .slice C ns.length cc, I hd]⟩] ++ LT)) ((colN ns).length) (⟨0, 0, by omega, rfl, rfl, rfl, by omega, (fun i h => absurd h (by omega)), H⟩) ?_
    clear H
    rintro k uu w ⟨j, sm, hk, h58, h9, hsm, hsb, hfs, H⟩
    refine WP.know (t := 58) h58 (WP.know (t := 9) h9 ?_)
    refine WP.seq ?_
    refine WP.region ?_
    refine OPS.val rfl rfl rfl (Ev.lss rfl rfl) ?_
    refine OPS.nil ?_
    refine WP.seq ?_
    refine WP.cond rfl (fun hc9 => ?_) (fun hc9 => ?_)
    · have hlt : j < (colN ns).length := by simpa using hc9
      obtain ⟨bu, ou, rfl, hxu⟩ := hU j (by omega)
      rw [hug j (by omega)] at hxu
      have hTt := hLT w H
      obtain ⟨b1, o1, rfl, hcn⟩ := hTt.c j hlt
      obtain ⟨nx, hnx⟩ : ∃ nx, nx = (colN ns)[j] := ⟨_, rfl⟩
      rw [← hnx] at hcn
      have hmx : 1 ≤ nx.move ∧ nx.move ≤ 32 := by
        have := hX.cb nx.move (List.mem_map.2 ⟨nx, by rw [hnx]; exact List.getElem_mem hlt, rfl⟩)
        exact this
      have hCj : (movC ns)[j]'(by omega) = nx.move := by simp [movC, hnx]
      have hpb := prodB (a := nx.move) (b := u j) (by omega) (hub2 j)
      have hdn := dn_take (D := movC ns) (v := u) (j := j) (by omega)
      rw [hCj] at hdn
      have hcom : u j * nx.move = nx.move * u j := Int.mul_comm _ _
      obtain ⟨pd, hpd⟩ : ∃ pd, pd = nx.move * u j := ⟨_, rfl⟩
      rw [← hpd] at hpb hdn hcom
      have hf1 : fits (u j * nx.move) := by rw [hcom]; unfold fits; omega
      have hf2 : fits (sm - u j * nx.move) := by rw [hcom]; unfold fits; omega
      refine WP.skip ?_
      refine WP.seq ?_
      refine WP.block ?_
      refine WP.seq ?_
      refine WP.region ?_
      refine OPS.val rfl rfl rfl (Ev.mvI rfl) ?_
      refine OPS.val rfl rfl rfl ((by exact Ev.indexAddr (el_run rfl) (size_run rfl) rfl rfl rfl (by omega))) ?_
      refine OPS.val rfl rfl rfl (Ev.loadN (needCells nx) (agg_run rfl) (size_run rfl) rfl hcn) ?_
      refine OPS.alloc rfl rfl rfl rfl (zero_run rfl) rfl H ?_
      clear H; intro g11 w H
      refine OPS.val rfl rfl rfl (Ev.asI rfl) ?_
      refine OPS.store 0 _ rfl rfl rfl (size_run rfl) rfl (cA rfl) rfl rfl H rfl (by simp) ?_
      clear H; intro w H; try simp only [List.set_cons_zero, List.set_cons_succ, putL, Nat.zero_add] at H
      refine OPS.nil ?_
      refine WP.seq ?_
      unfold needCells at H
      simp only [putL, List.set_cons_zero, List.set_cons_succ] at H
      refine WP.rstill mixed (by kernel_rfl) H ?_
      clear H; intro w hbw11 H
      refine OPS.val rfl rfl rfl (Ev.mvI rfl) ?_
      refine OPS.val rfl rfl rfl (Ev.fieldAddr (fld_run rfl) rfl) ?_
      refine OPS.val rfl rfl rfl (Ev.load1 (agg_run rfl) rfl (by exact H.ldL 3 rfl _ rfl)) ?_
      refine OPS.val rfl rfl rfl (Ev.mvI rfl) ?_
      refine OPS.val rfl rfl rfl ((by exact Ev.indexAddr1 (el_run rfl) (size_run rfl) rfl rfl rfl (by omega))) ?_
      refine OPS.val rfl rfl rfl (Ev.load1 (agg_run rfl) rfl (by exact H.ld0 (by assumption))) ?_
      refine OPS.val rfl rfl rfl (Ev.fieldAddr (fld_run rfl) rfl) ?_
      refine OPS.val rfl rfl rfl (Ev.load1 (agg_run rfl) rfl (by exact H.ldL 0 rfl _ rfl)) ?_
      refine OPS.val rfl rfl rfl (Ev.mul rfl rfl hf1) ?_
      refine OPS.val rfl rfl rfl (Ev.sub rfl rfl hf2) ?_
      refine OPS.val rfl rfl rfl (Ev.asI rfl) ?_
      refine OPS.nil_s ?_
      refine WP.seq ?_
      have hTt := hLT w (H.drop (List.sublist_cons_self _ _))
      obtain ⟨r, hre⟩ : ∃ r, r = rs[j]'(by have := hTK.rl; omega) := ⟨_, rfl⟩
      have hrm : r ∈ rs := by rw [hre]; exact List.getElem_mem _
      have hrI := hTt.r r hrm
      have hrb := hTK.row r hrm
      obtain ⟨bt, ot, rfl, hxt⟩ := hTt.t j (by have := hTK.rl; omega)
      rw [← hre] at hxt
      have hxe : ∀ q (h : q < r.l.length), Flo.tmAt (timL m l ns) j q = some r.l[q] := fun q h => by
        have e1 : (rs.map (·.l))[j]? = some r.l := by simp [show j < rs.length by have := hTK.rl; omega, ← hre]
        rw [hrs] at e1
        unfold Flo.tmAt
        rw [e1]
        simp [h]
      clear hre
      obtain ⟨rA, rc, rl⟩ := r
      simp only [slV] at hxt hrI hrb hxe
      refine WP.region ?_
      refine OPS.val rfl rfl rfl (Ev.fieldAddr (fld_run rfl) rfl) ?_
      refine OPS.val rfl rfl rfl (Ev.load1 (agg_run rfl) rfl (by exact H.ldL 2 rfl _ rfl)) ?_
      refine OPS.val rfl rfl rfl (Ev.mvI rfl) ?_
      refine OPS.val rfl rfl rfl ((by exact Ev.indexAddr1 (el_run rfl) (size_run rfl) rfl rfl rfl (by omega))) ?_
      refine OPS.val rfl rfl rfl (Ev.load1 (agg_run rfl) rfl (by assumption)) ?_
      refine OPS.val rfl rfl rfl (Ev.len (el_run rfl) rfl) ?_
      refine OPS.val rfl rfl rfl (Ev.mvI rfl) ?_
      refine OPS.nil ?_
      refine WP.block ?_
      refine WP.loop [4, 12, 13, 79, 80, 81, 82, 83, 84, 85, 86, 87, 88, 89, 90, 91, 92, 93, 94, 95, 96, 97, 98, 99, 100, 101] (fun k e w' => ∃ (q : Nat), q + k = rl.length ∧ e 79 = I q ∧ (∀ k x, k < q → Flo.tmAt (timL m l ns) j k = some x → 0 ≤ x → v k ≤ u j + 1 * x) ∧ SH w0 [] w' ([⟨g11, 48, [I nx.node, I nx.move]⟩, ⟨g7, 33, bndL s2 b2 AU2 us2.length cu2 AV2 vs2.length cv2⟩, ⟨g5, 60, tskC (some ⟨b1, o1, none⟩) Ab (some ⟨bt, ot, none⟩) (colN ns).length (briN ns).length rs.length kc kb kt (capL ts) (movC ns).sum (movD ns).sum⟩, ⟨g3, 33, bndL s b (some ⟨bu, ou, none⟩) us.length cu AV vs.length cv⟩, ⟨g2, 28, [I m, .slice A l.length ca, .slice B ts.length cb, .slice C ns.length cc, I hd]⟩] ++ LT)) (rl.length) (⟨0, by omega, rfl, (fun k x h => absurd h (by omega)), H⟩) ?_
      clear H hTt hcn hrI hxt
      rintro k2 uu2 w ⟨q, hk2, h79, hfq, H⟩
      refine WP.know (t := 79) h79 ?_
      refine WP.seq ?_
      refine WP.region ?_
      refine OPS.val rfl rfl rfl (Ev.lss rfl rfl) ?_
      refine OPS.nil ?_
      refine WP.seq ?_
      refine WP.cond rfl (fun hc13 => ?_) (fun hc13 => ?_)
      · have hlt2 : q < rl.length := by simpa using hc13
        obtain ⟨bv, ov, rfl, hxv⟩ := hV q (by omega)
        rw [hvg q (by omega)] at hxv
        have hxe2 := hxe q hlt2
        obtain ⟨x, hx⟩ : ∃ x, x = rl[q] := ⟨_, rfl⟩
        rw [← hx] at hxe2
        have hxb := hX.tb j q x hxe2
        have hTt := hLT w (H.drop (List.sublist_cons_self _ _))
        have hub3 := hub2 j
        have hvb3 := hvb2 q
        refine WP.skip ?_
        refine WP.seq ?_
        refine WP.block ?_
        refine WP.seq ?_
        have hrr : IntsAt w rA rl := hTt.r ⟨rA, rc, rl⟩ hrm
        obtain ⟨br, orr, rfl, hxr⟩ := hrr q hlt2
        rw [← hx] at hxr
        refine WP.region ?_
        refine OPS.val rfl rfl rfl (Ev.mvI rfl) ?_
        refine OPS.val rfl rfl rfl ((by exact Ev.indexAddr1 (el_run rfl) (size_run rfl) rfl rfl rfl (by omega))) ?_
        refine OPS.val rfl rfl rfl (Ev.load1 (agg_run rfl) rfl (by assumption)) ?_
        refine OPS.val rfl rfl rfl (Ev.asI rfl) ?_
        refine OPS.val rfl rfl rfl (Ev.asI rfl) ?_
        refine OPS.nil ?_
        refine WP.seq ?_
        refine WP.rstill mixed (by kernel_rfl) H ?_
        clear H; intro w hbw15 H
        refine OPS.val rfl rfl rfl (Ev.mvI rfl) ?_
        refine OPS.val rfl rfl rfl (Ev.geq rfl rfl) ?_
        refine OPS.val rfl rfl rfl (Ev.mvB rfl) ?_
        refine OPS.gval rfl rfl rfl rfl rfl (fun hg => Ev.fieldAddr (fld_run rfl) (by rfl)) ?_
        refine OPS.gval rfl rfl rfl rfl rfl (fun hg => Ev.load1 (agg_run rfl) (by exact gvE hg rfl) (by exact H.ldL 3 rfl _ rfl)) ?_
        refine OPS.gval rfl rfl rfl rfl rfl (fun hg => Ev.mvI (by rfl)) ?_
        refine OPS.gval rfl rfl rfl rfl rfl (fun hg => (by exact Ev.indexAddr1 (el_run rfl) (size_run rfl) (by exact gvE hg rfl) (by exact gvE hg rfl) rfl (by omega))) ?_
        refine OPS.gval rfl rfl rfl rfl rfl (fun hg => Ev.load1 (agg_run rfl) (by exact gvE hg rfl) (by exact H.ld0 (by assumption))) ?_
        refine OPS.gval rfl rfl rfl rfl rfl (fun hg => Ev.fieldAddr (fld_run rfl) (by rfl)) ?_
        refine OPS.gval rfl rfl rfl rfl rfl (fun hg => Ev.load1 (agg_run rfl) (by exact gvE hg rfl) (by exact H.ldL 3 rfl _ rfl)) ?_
        refine OPS.gval rfl rfl rfl rfl rfl (fun hg => Ev.mvI (by rfl)) ?_
        refine OPS.gval rfl rfl rfl rfl rfl (fun hg => (by exact Ev.indexAddr1 (el_run rfl) (size_run rfl) (by exact gvE hg rfl) (by exact gvE hg rfl) rfl (by omega))) ?_
        refine OPS.gval rfl rfl rfl rfl rfl (fun hg => Ev.load1 (agg_run rfl) (by exact gvE hg rfl) (by exact H.ld0 (by assumption))) ?_
        refine OPS.gval rfl rfl rfl rfl rfl (fun hg => Ev.sub (by exact gvE hg rfl) (by exact gvE hg rfl) (by unfold fits; omega)) ?_
        refine OPS.gval rfl rfl rfl rfl rfl (fun hg => Ev.mvI (by rfl)) ?_
        refine OPS.gval rfl rfl rfl rfl rfl (fun hg => Ev.gtr (by exact gvE hg rfl) (by exact gvE hg rfl)) ?_
        refine OPS.val rfl rfl rfl ((by exact Ev.pickAnd rfl rfl rfl)) ?_
        refine OPS.nil_s ?_
        refine WP.cond rfl (fun hc15 => ?_) (fun hc15 => ?_)
        · refine WP.seq ?_
          refine WP.region ?_
          refine OPS.val rfl rfl rfl (Ev.asB rfl) ?_
          refine OPS.nil ?_
          refine WP.ret ⟨_, rfl, ?_⟩
          have hb : 0 ≤ x ∧ x < v q - u j := by simpa using hc15
          exact hno w (H.drop (List.sublist_cons_self _ _)) fun hF => by have := hF j q x hxe2 hb.1; omega
        refine WP.skip ?_
        refine WP.region ?_
        refine OPS.val rfl rfl rfl (Ev.add rfl rfl (by unfold fits; omega)) ?_
        refine OPS.val rfl rfl rfl (Ev.mvI rfl) ?_
        refine OPS.nil ?_
        have hb : ¬ (0 ≤ x ∧ x < v q - u j) := by simpa using hc15
        refine ⟨(by repeat (first | exact Agree.refl _ _ | exact Agree.mix _ _ _ | refine Agree.upd rfl ?_ | refine Agree.mix2 rfl ?_)), k2 - 1, by omega, q + 1, by omega, rfl, fun k y hky hy hy0 => ?_, H⟩
        by_cases hkq : k = q
        · subst hkq; rw [hxe2] at hy; cases hy; omega
        · exact hfq k y (by omega) hy hy0
      refine WP.exit ?_
      refine XB.hit ?_
      refine WP.region ?_
      refine OPS.val rfl rfl rfl (Ev.add rfl rfl (by unfold fits; omega)) ?_
      refine OPS.val rfl rfl rfl (Ev.mvI rfl) ?_
      refine OPS.nil ?_
      have hq : q = rl.length := by simp at hc13; omega
      refine ⟨(by repeat (first | exact Agree.refl _ _ | exact Agree.mix _ _ _ | refine Agree.upd rfl ?_ | refine Agree.mix2 rfl ?_)), k - 1, by omega, j + 1, sm - u j * nx.move, by omega, rfl, rfl, (by rw [hdn, hcom, hsm]; omega), (by rw [hcom]; omega), fun i hi k y hy hy0 => ?_, H.drop (List.sublist_cons_self _ _)⟩
      by_cases hij : i = j
      · subst hij
        have := (hX.tab.cols i k y hy).2
        exact hfq k y (by omega) hy hy0
      · exact hfs i (by omega) k y hy hy0
    have hj : j = (colN ns).length := by simp at hc9; omega
    subst hj
    rw [List.take_of_length_le (show (movC ns).length ≤ (colN ns).length by omega)] at hsm
    have hF : Flo.Feas 1 (timL m l ns) u v := fun i k x hx hx0 => hfs i (by have := (hX.tab.cols i k x hx).1; omega) k x hx hx0
    obtain ⟨dC, hdC⟩ : ∃ dC, dC = Flo.dn (movC ns) u := ⟨_, rfl⟩
    rw [← hdC] at hsm
    have hfin : ∀ w, SH w0 [] w ([⟨g7, 33, bndL s2 b2 AU2 us2.length cu2 AV2 vs2.length cv2⟩, ⟨g5, 60, tskC Ac Ab At (colN ns).length (briN ns).length rs.length kc kb kt (capL ts) (movC ns).sum (movD ns).sum⟩, ⟨g3, 33, bndL s b AU us.length cu AV vs.length cv⟩, ⟨g2, 28, [I m, .slice A l.length ca, .slice B ts.length cb, .slice C ns.length cc, I hd]⟩] ++ LT) → ∀ r : Bool, (r = true ↔ s = divI (Flo.dn (movD ns) v - dC) (capL ts)) → ∃ r2 : Bool, Ending.returned (Bo r) = .returned (.bool r2) ∧ (r2 = true ↔ ProvedP m l ts ns hd s b us vs) ∧ Below w0.heap.size w0 w := fun w H r hr => by
      refine ⟨r, rfl, ⟨fun h => ⟨by rw [hfe]; exact q1, q2, ⟨q3, q4⟩, ⟨q5, q6⟩, ?_, ?_⟩, fun hp => hr.2 ?_⟩, H.below⟩
      · rw [← hu, ← hv]; simpa using hF
      · rw [← hu, ← hv, ← hdC]; exact hr.1 h
      · have h2 := hp.secs
        rw [← hu, ← hv, ← hdC] at h2; exact h2
    refine WP.exit ?_
    refine XB.hit ?_
    refine WP.seq ?_
    refine WP.seq ?_
    refine WP.region ?_
    refine OPS.val rfl rfl rfl (Ev.fieldAddr (fld_run rfl) rfl) ?_
    refine OPS.val rfl rfl rfl (Ev.load1 (agg_run rfl) rfl (by exact H.ldL 1 rfl _ rfl)) ?_
    refine OPS.val rfl rfl rfl (Ev.len (el_run rfl) rfl) ?_
    refine OPS.val rfl rfl rfl (Ev.mvI rfl) ?_
    refine OPS.nil ?_
    refine WP.block ?_
    refine WP.loop [9, 14, 15, 106, 107, 108, 109, 110, 111, 112, 113, 114, 115, 116, 117, 118, 119, 120, 121, 122] (fun k e w' => ∃ (q : Nat) (sm2 : Int), q + k = (briN ns).length ∧ e 106 = I q ∧ e 9 = I sm2 ∧ sm2 = Flo.dn ((movD ns).take q) v - dC ∧ (sm ≤ sm2 ∧ sm2 ≤ 36028797018963968 * (q : Int)) ∧ SH w0 [] w' ([⟨g7, 33, bndL s2 b2 AU2 us2.length cu2 AV2 vs2.length cv2⟩, ⟨g5, 60, tskC Ac Ab At (colN ns).length (briN ns).length rs.length kc kb kt (capL ts) (movC ns).sum (movD ns).sum⟩, ⟨g3, 33, bndL s b AU us.length cu AV vs.length cv⟩, ⟨g2, 28, [I m, .slice A l.length ca, .slice B ts.length cb, .slice C ns.length cc, I hd]⟩] ++ LT)) ((briN ns).length) (⟨0, sm, by omega, rfl, rfl, (by rw [hsm]; simp [Flo.dn]), by omega, H⟩) ?_
    clear H
    rintro k uu w ⟨q, sm2, hk, h106, h9, hs2, hs2b, H⟩
    refine WP.know (t := 106) h106 (WP.know (t := 9) h9 ?_)
    refine WP.seq ?_
    refine WP.region ?_
    refine OPS.val rfl rfl rfl (Ev.lss rfl rfl) ?_
    refine OPS.nil ?_
    refine WP.seq ?_
    refine WP.cond rfl (fun hc20 => ?_) (fun hc20 => ?_)
    · have hlt : q < (briN ns).length := by simpa using hc20
      obtain ⟨bv, ov, rfl, hxv⟩ := hV q (by omega)
      rw [hvg q (by omega)] at hxv
      have hTt := hLT w H
      obtain ⟨b1, o1, rfl, hcn⟩ := hTt.b q hlt
      obtain ⟨ny, hny⟩ : ∃ ny, ny = (briN ns)[q] := ⟨_, rfl⟩
      rw [← hny] at hcn
      have hDj : (movD ns)[q]'(by omega) = -ny.move := by simp [movD, hny]
      have hmx : 1 ≤ -ny.move ∧ -ny.move ≤ 32 := hX.db (-ny.move) (List.mem_map.2 ⟨ny, by rw [hny]; exact List.getElem_mem hlt, rfl⟩)
      have hpb := prodB (a := -ny.move) (b := v q) (by omega) (hvb2 q)
      have hdn := dn_take (D := movD ns) (v := v) (j := q) (by omega)
      rw [hDj] at hdn
      have hcom : v q * -ny.move = -ny.move * v q := Int.mul_comm _ _
      obtain ⟨pd, hpd⟩ : ∃ pd, pd = -ny.move * v q := ⟨_, rfl⟩
      rw [← hpd] at hpb hdn hcom
      have hf1 : fits (v q * -ny.move) := by rw [hcom]; unfold fits; omega
      have hf2 : fits (sm2 + v q * -ny.move) := by rw [hcom]; unfold fits; omega
      refine WP.skip ?_
      refine WP.seq ?_
      refine WP.block ?_
      refine WP.seq ?_
      refine WP.region ?_
      refine OPS.val rfl rfl rfl (Ev.mvI rfl) ?_
      refine OPS.val rfl rfl rfl ((by exact Ev.indexAddr (el_run rfl) (size_run rfl) rfl rfl rfl (by omega))) ?_
      refine OPS.val rfl rfl rfl (Ev.loadN (needCells ny) (agg_run rfl) (size_run rfl) rfl hcn) ?_
      refine OPS.alloc rfl rfl rfl rfl (zero_run rfl) rfl H ?_
      clear H; intro g15 w H
      refine OPS.val rfl rfl rfl (Ev.asI rfl) ?_
      refine OPS.store 0 _ rfl rfl rfl (size_run rfl) rfl (cA rfl) rfl rfl H rfl (by simp) ?_
      clear H; intro w H; try simp only [List.set_cons_zero, List.set_cons_succ, putL, Nat.zero_add] at H
      refine OPS.nil ?_
      unfold needCells at H
      simp only [putL, List.set_cons_zero, List.set_cons_succ] at H
      refine WP.rstill mixed (by kernel_rfl) H ?_
      clear H; intro w hbw22 H
      refine OPS.val rfl rfl rfl (Ev.mvI rfl) ?_
      refine OPS.val rfl rfl rfl (Ev.fieldAddr (fld_run rfl) rfl) ?_
      refine OPS.val rfl rfl rfl (Ev.load1 (agg_run rfl) rfl (by exact H.ldL 3 rfl _ rfl)) ?_
      refine OPS.val rfl rfl rfl (Ev.mvI rfl) ?_
      refine OPS.val rfl rfl rfl ((by exact Ev.indexAddr1 (el_run rfl) (size_run rfl) rfl rfl rfl (by omega))) ?_
      refine OPS.val rfl rfl rfl (Ev.load1 (agg_run rfl) rfl (by exact H.ld0 (by assumption))) ?_
      refine OPS.val rfl rfl rfl (Ev.fieldAddr (fld_run rfl) rfl) ?_
      refine OPS.val rfl rfl rfl (Ev.load1 (agg_run rfl) rfl (by exact H.ldL 0 rfl _ rfl)) ?_
      refine OPS.val rfl rfl rfl (Ev.neg rfl (by unfold fits; omega)) ?_
      refine OPS.val rfl rfl rfl (Ev.mul rfl rfl hf1) ?_
      refine OPS.val rfl rfl rfl (Ev.add rfl rfl hf2) ?_
      refine OPS.val rfl rfl rfl (Ev.asI rfl) ?_
      refine OPS.nil_s ?_
      refine WP.region ?_
      refine OPS.val rfl rfl rfl (Ev.add rfl rfl (by unfold fits; omega)) ?_
      refine OPS.val rfl rfl rfl (Ev.mvI rfl) ?_
      refine OPS.nil ?_
      exact ⟨(by repeat (first | exact Agree.refl _ _ | exact Agree.mix _ _ _ | refine Agree.upd rfl ?_ | refine Agree.mix2 rfl ?_)), k - 1, by omega, q + 1, sm2 + v q * -ny.move, by omega, rfl, rfl, (by rw [hdn, hcom, hs2]; omega), (by rw [hcom]; omega), H.drop (List.sublist_cons_self _ _)⟩
    have hq : q = (briN ns).length := by simp at hc20; omega
    subst hq
    rw [List.take_of_length_le (show (movD ns).length ≤ (briN ns).length by omega)] at hs2
    refine WP.exit ?_
    refine XB.hit ?_
    refine WP.seq ?_
    refine WP.seq ?_
    refine WP.region ?_
    refine OPS.val rfl rfl rfl (Ev.mvI rfl) ?_
    refine OPS.val rfl rfl rfl (Ev.lss rfl rfl) ?_
    refine OPS.nil ?_
    refine WP.cond rfl (fun hc24 => ?_) (fun hc24 => ?_)
    · refine WP.seq ?_
      refine WP.region ?_
      refine OPS.val rfl rfl rfl (Ev.fieldAddr (fld_run rfl) rfl) ?_
      refine OPS.val rfl rfl rfl (Ev.load1 (agg_run rfl) rfl (by exact H.ldL 2 rfl _ rfl)) ?_
      refine OPS.val rfl rfl rfl (Ev.eql rfl rfl) ?_
      refine OPS.val rfl rfl rfl (Ev.asB rfl) ?_
      refine OPS.nil ?_
      refine WP.ret ⟨_, rfl, ?_⟩
      have hneg : sm2 < 0 := by simpa using hc24
      refine hfin w H _ ?_
      rw [← hs2, divI, if_pos (by omega)]
      simp
    have hneg : 0 ≤ sm2 := by simpa using hc24
    refine WP.skip ?_
    refine WP.seq ?_
    refine WP.rquiet mixed (by kernel_rfl) H ?_
    clear H; intro w hbw26 H
    refine OPS.val rfl rfl rfl (Ev.fieldAddr (fld_run rfl) rfl) ?_
    refine OPS.val rfl rfl rfl (Ev.load1 (agg_run rfl) rfl (by exact H.ldL 2 rfl _ rfl)) ?_
    refine OPS.val rfl rfl rfl (Ev.mvI rfl) ?_
    refine OPS.val rfl rfl rfl (Ev.fieldAddr (fld_run rfl) rfl) ?_
    refine OPS.val rfl rfl rfl (Ev.load1 (agg_run rfl) rfl (by exact H.ldL 1 rfl _ rfl)) ?_
    refine OPS.callq rfl rfl rfl (EvC.func (fun_run rfl)) (fun w2 hb2 => boundUp sm2 (capL ts) w2 (by omega) (by omega)) ?_
    refine OPS.val rfl rfl rfl (Ev.eql rfl rfl) ?_
    refine OPS.val rfl rfl rfl (Ev.asB rfl) ?_
    refine OPS.nilq H ?_
    clear H; intro w hbx26 H
    refine WP.ret ⟨_, rfl, ?_⟩
    refine hfin w H _ ?_
    rw [← hs2]
    simp
  · have hfe : findErr n l ts ns hd = nightErr n l ts ns hd := by rw [findErr, if_pos h0]
    refine Calls.ofWP Try.func14 rfl Try.results14 Try.ntmps14 rfl ?_
    refine WP.seq ?_
    refine WP.region ?_
    refine OPS.box rfl rfl rfl rfl (cA rfl) H ?_
    clear H; intro g2 w H
    refine OPS.box rfl rfl rfl rfl (cA rfl) H ?_
    clear H; intro g3 w H
    refine OPS.val rfl rfl rfl (Ev.asB rfl) ?_
    refine OPS.nil ?_
    refine WP.seq ?_
    refine WP.region ?_
    refine OPS.val rfl rfl rfl ((by exact Ev.loadO 1 H rfl (agg_run rfl) (size_run rfl) (by rfl) rfl)) ?_
    refine OPS.call (d := some 18) rfl rfl rfl (EvC.func (fun_run rfl)) (Calls.mono (boundRead n hd A B C l ts ns ca cb cc w (hN.sh H)) fun _ _ h => h.1 h0) ?_
    rintro _ w ⟨rfl, hb⟩
    refine ⟨_, rfl, ?_⟩
    replace H := H.toBelow hb; clear hb
    refine OPS.val rfl rfl rfl (Ev.mvT rfl) ?_
    refine OPS.val rfl rfl rfl (Ev.extract rfl rfl) ?_
    refine OPS.val rfl rfl rfl (Ev.extract rfl rfl) ?_
    refine OPS.alloc rfl rfl rfl rfl (zero_run rfl) rfl H ?_
    clear H; intro g5 w H
    refine OPS.store 0 _ rfl rfl rfl (size_run rfl) rfl (cA rfl) rfl rfl H rfl (by simp) ?_
    clear H; intro w H; try simp only [List.set_cons_zero, List.set_cons_succ, putL, Nat.zero_add] at H
    refine OPS.val rfl rfl rfl (Ev.asI rfl) ?_
    refine OPS.nil ?_
    refine WP.seq ?_
    refine WP.seq ?_
    refine WP.region ?_
    refine OPS.val rfl rfl rfl (Ev.mvI rfl) ?_
    refine OPS.val rfl rfl rfl (Ev.neq rfl rfl) ?_
    refine OPS.nil ?_
    refine WP.cond rfl (fun hc2 => ?_) (fun hc2 => ?_)
    · refine WP.seq ?_
      refine WP.region ?_
      refine OPS.val rfl rfl rfl (Ev.asB rfl) ?_
      refine OPS.nil ?_
      refine WP.ret ⟨_, rfl, ?_⟩
      exact ⟨false, rfl, ⟨(fun h => by cases h), fun hp => absurd (hfe ▸ hp.err) h0⟩, H.below⟩
    refine WP.skip ?_
    refine WP.seq ?_
    refine WP.seq ?_
    exact absurd hc2 (by simp [h0])
end Go.Proofs.Ytgjfjbphngamgaa
