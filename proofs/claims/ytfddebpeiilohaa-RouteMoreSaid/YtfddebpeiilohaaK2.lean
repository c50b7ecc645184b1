/-
  Walks: Check of a question.
-/
import Derived.Test.YtfddebpeiilohaaK1
import Derived.Test.YtfddebpeiilohaaT13
set_option linter.all false
namespace Go.Proofs.Ytfddebpeiilohaa
open Go Go.W Go.RowKit

theorem cmpT_sub (zs : List Int) : ∀ {i : Nat}, i ≤ zs.length → (cmpT zs i).Sublist (zs.take i)
  | 0, _ => by simp [cmpT]
  | i + 1, h => by
    rw [cmpT, List.take_succ_eq_append_getElem (show i < zs.length by omega)]
    refine List.Sublist.append (cmpT_sub zs (by omega)) ?_
    split
    · exact List.nil_sublist _
    · rw [getI (show i < zs.length by omega)]; exact List.Sublist.refl _
theorem cmpT_nodup (l : List Int) : (cmpT (srt l) l.length).length = l.length ↔ l.Nodup := by
  have hl := srt_len l
  constructor
  · intro h
    have h1 := cmpT_sub (srt l) (i := l.length) (by omega)
    rw [show (srt l).take l.length = srt l by rw [← hl, List.take_length]] at h1
    have h2 := h1.eq_of_length (by omega)
    have h3 := cmpT_sorted (srt_sorted l) (i := l.length) (by omega)
    rw [h2] at h3
    exact (srt_perm l).nodup_iff.1 (List.nodup_iff_pairwise_ne.2 (h3.imp fun h => by omega))
  · intro h
    have h1 := (srt_perm l).nodup_iff.2 h
    rw [cmpT_id (by omega) (fun j h0 hj => ?_), List.length_take]
    · omega
    · rw [getI (show j < (srt l).length by omega), getI (show j - 1 < (srt l).length by omega)]
      intro he
      have := (List.getElem_inj h1).1 he
      omega
theorem compS (A : Option Addr) (c : Nat) (zs : List Int) (Lo : List Blk) (w0 : World) (hl : zs.length ≤ 1000) (hO : OwnS A c zs.length (zs.map I) 3 1 Lo) (H0 : SH w0 (Lo.map (·.g)) w0 Lo) :
    Calls Try.prog 39 #[.slice A zs.length c] w0 fun e w' => ∃ Lo', e = .returned (.slice A (cmpT zs zs.length).length c) ∧ SH w0 (Lo.map (·.g)) w' Lo' := by
  rcases hO.form with ⟨rfl, h0, rfl, rfl⟩ | ⟨g, sp, rfl, rfl, h1, h2, h3⟩
  · have : zs = [] := List.eq_nil_of_length_eq_zero h0
    subst this
    refine (Try.slices_Compact_int_empty none 0 w0).mono ?_
    rintro e w' ⟨rfl, rfl⟩
    exact ⟨[], rfl, H0⟩
  · refine (slCompact g zs sp c w0 H0 (by omega) h1).mono ?_
    rintro e w' ⟨sp', rfl, Hc⟩
    exact ⟨_, rfl, Hc⟩
def askErr (n : Int) (l : List Edg) (ts : List Truck) (ns : List Need) (hd rt : Int) (rn : List Int) : Int :=
  if nightErr n l ts ns hd ≠ 0 then nightErr n l ts ns hd else if routeErr ts ns rt rn ≠ 0 then routeErr ts ns rt rn else if 6 < rn.length then 8 else 0
theorem routeCheckF (i : Int) (g k cc : Nat) (C : Option Addr) (w0 : World) (hk : k ≤ 1000) (hc : w0.cell? ⟨g, 3, none⟩ = some (.slice C k cc)) :
    Calls Try.prog 35 #[I i, .pointer (some ⟨g, 0, none⟩)] w0 fun e w' => e = .returned (.bool (outB k i)) ∧ Below w0.heap.size w0 w' := by
  have H := SH.refl w0
  have he : outB k i = (decide (i < 0) || decide ((k : Int) ≤ i)) := by
    unfold outB inB
    rw [Bool.eq_iff_iff]; simp; omega
  rw [he]
  refine Calls.ofWP Try.func35 rfl Try.results35 Try.ntmps35 rfl ?_
  refine WP.seq ?_
  refine WP.region ?_
  refine OPS.val rfl rfl rfl (Ev.asB rfl) ?_
  refine OPS.nil ?_
  refine WP.seq ?_
  refine WP.region ?_
  refine OPS.val rfl rfl rfl (Ev.mvI rfl) ?_
  refine OPS.val rfl rfl rfl (Ev.lss rfl rfl) ?_
  refine OPS.val rfl rfl rfl (Ev.mvB rfl) ?_
  refine OPS.gval rfl rfl rfl rfl rfl (fun hg => Ev.mvI (by rfl)) ?_
  refine OPS.gval rfl rfl rfl rfl rfl (fun hg => Ev.fieldAddr (fld_run rfl) (by rfl)) ?_
  refine OPS.gval rfl rfl rfl rfl rfl (fun hg => Ev.load1 (agg_run rfl) (by exact gvE hg rfl) (by exact H.ld0 (by assumption))) ?_
  refine OPS.gval rfl rfl rfl rfl rfl (fun hg => Ev.len (el_run rfl) (by exact gvE hg rfl)) ?_
  refine OPS.gval rfl rfl rfl rfl rfl (fun hg => Ev.geq (by exact gvE hg rfl) (by exact gvE hg rfl)) ?_
  refine OPS.val rfl rfl rfl ((by exact Ev.pickOr rfl rfl rfl)) ?_
  refine OPS.val rfl rfl rfl (Ev.asB rfl) ?_
  refine OPS.nil ?_
  refine WP.ret ⟨_, rfl, ?_⟩
  exact ⟨rfl, H.below⟩
set_option maxHeartbeats 1000000 in
theorem routeCheck (n hd rt : Int) (A B C R : Option Addr) (l : List Edg) (ts : List Truck) (ns : List Need) (rn : List Int) (ca cb cc cr : Nat) (w0 : World) (hz : EdgsAt w0 A l) (ht : RowsAt 4 truckCells w0 B ts) (hn : RowsAt 2 needCells w0 C ns) (hcc : ns.length ≤ cc) (hr : IntsAt w0 R rn) (hrl : rn.length ≤ 1000) :
    Calls Try.prog 23 #[.agg #[I n, .slice A l.length ca, .slice B ts.length cb, .slice C ns.length cc, I hd], I rt, .slice R rn.length cr] w0 fun e w' => e = .returned (I (askErr n l ts ns hd rt rn)) ∧ Below w0.heap.size w0 w' := by
  have H := SH.refl w0
  have hsl := srt_len rn
  refine Calls.ofWP Try.func23 rfl Try.results23 Try.ntmps23 rfl ?_
  refine WP.seq ?_
  refine WP.region ?_
  refine OPS.box rfl rfl rfl rfl (cA rfl) H ?_
  clear H; intro g3 w H
  refine OPS.val rfl rfl rfl (Ev.asI rfl) ?_
  refine OPS.nil ?_
  refine WP.seq ?_
  refine WP.seq ?_
  refine WP.region ?_
  refine OPS.val rfl rfl rfl ((by exact Ev.loadO 0 H rfl (agg_run rfl) (size_run rfl) (by rfl) rfl)) ?_
  refine OPS.call (d := some 11) rfl rfl rfl (EvC.func (fun_run rfl)) (truckCheck n hd A B C l ts ns ca cb cc w (hz.sh H) (ht.sh H) (hn.sh H) hcc) ?_
  rintro _ w ⟨rfl, hb⟩
  refine ⟨_, rfl, ?_⟩
  replace H := H.toBelow hb; clear hb
  refine OPS.val rfl rfl rfl (Ev.asI rfl) ?_
  refine OPS.nil ?_
  refine WP.seq ?_
  refine WP.region ?_
  refine OPS.val rfl rfl rfl (Ev.mvI rfl) ?_
  refine OPS.val rfl rfl rfl (Ev.neq rfl rfl) ?_
  refine OPS.nil ?_
  refine WP.cond rfl (fun hc2 => ?_) (fun hc2 => ?_)
  · refine WP.seq ?_
    refine WP.region ?_
    refine OPS.val rfl rfl rfl (Ev.mvI rfl) ?_
    refine OPS.val rfl rfl rfl (Ev.asI rfl) ?_
    refine OPS.nil ?_
    refine WP.ret ⟨_, rfl, ?_⟩
    have h : nightErr n l ts ns hd ≠ 0 := by simpa using hc2
    exact ⟨by rw [askErr, if_pos h]; rfl, H.below⟩
  have h0 : nightErr n l ts ns hd = 0 := by simpa using hc2
  obtain ⟨m, rfl, hN⟩ := nightOk_of h0
  have htl := hN.tl
  have hnl := hN.nl
  have he0 : askErr m l ts ns hd rt rn = if routeErr ts ns rt rn ≠ 0 then routeErr ts ns rt rn else if 6 < rn.length then 8 else 0 := by rw [askErr, if_neg (by simp [h0])]
  have hout : outB ts.length rt = (decide (rt < 0) || decide ((ts.length : Int) ≤ rt)) := by
    unfold outB inB
    rw [Bool.eq_iff_iff]; simp; omega
  refine WP.skip ?_
  refine WP.seq ?_
  refine WP.region ?_
  refine OPS.val rfl rfl rfl (Ev.makeFunc) ?_
  refine OPS.val rfl rfl rfl (Ev.asF rfl) ?_
  refine OPS.nil ?_
  refine WP.seq ?_
  refine WP.seq ?_
  refine WP.region ?_
  refine OPS.val rfl rfl rfl (Ev.mvI rfl) ?_
  refine OPS.val rfl rfl rfl (Ev.lss rfl rfl) ?_
  refine OPS.val rfl rfl rfl (Ev.mvB rfl) ?_
  refine OPS.gval rfl rfl rfl rfl rfl (fun hg => Ev.mvI (by rfl)) ?_
  refine OPS.gval rfl rfl rfl rfl rfl (fun hg => Ev.fieldAddr (fld_run rfl) (by rfl)) ?_
  refine OPS.gval rfl rfl rfl rfl rfl (fun hg => Ev.load1 (agg_run rfl) (by exact gvE hg rfl) (by exact H.ldL 0 rfl _ rfl)) ?_
  refine OPS.gval rfl rfl rfl rfl rfl (fun hg => Ev.len (el_run rfl) (by exact gvE hg rfl)) ?_
  refine OPS.gval rfl rfl rfl rfl rfl (fun hg => Ev.geq (by exact gvE hg rfl) (by exact gvE hg rfl)) ?_
  refine OPS.val rfl rfl rfl ((by exact Ev.pickOr rfl rfl rfl)) ?_
  refine OPS.val rfl rfl rfl (Ev.mvB rfl) ?_
  refine OPS.gval rfl rfl rfl rfl rfl (fun hg => Ev.mvS (by rfl)) ?_
  refine OPS.gval rfl rfl rfl rfl rfl (fun hg => Ev.mvF (by rfl)) ?_
  refine OPS.gcall0 (f := 36) (slContainsFuncI R rn cr _ [.pointer (some ⟨g3, 0, none⟩)] (outB ns.length) _ (hr.sh H) (by unfold maxLen; omega) rfl (fun i _ w2 hb => routeCheckF i g3 ns.length cc C w2 (by omega) (cell_below hb (H.ldL 0 rfl 3 rfl)))) (fun _ _ h => h) rfl rfl rfl rfl rfl (fun hg => EvC.conv (EvC.func (fun_run rfl)) (l2 (by exact gvE hg rfl) (by exact gvE hg rfl))) ?_
  intro w hbc; replace H := H.toBelow hbc
  refine OPS.val rfl rfl rfl ((by exact Ev.pickOr rfl rfl rfl)) ?_
  refine OPS.nil ?_
  refine WP.cond rfl (fun hc5 => ?_) (fun hc5 => ?_)
  · refine WP.seq ?_
    refine WP.region ?_
    refine OPS.val rfl rfl rfl (Ev.asI rfl) ?_
    refine OPS.nil ?_
    refine WP.ret ⟨_, rfl, ?_⟩
    have he : routeErr ts ns rt rn = 7 := by
      unfold routeErr
      rw [if_pos]
      rw [hout]; simpa using hc5
    exact ⟨by rw [he0, he]; rfl, H.below⟩
  have hno : ¬ (outB ts.length rt = true ∨ rn.any (outB ns.length) = true) := by rw [hout]; simpa using hc5
  have he1 : routeErr ts ns rt rn = if twiceB rn = true then 6 else 0 := by
    unfold routeErr
    rw [if_neg hno]
  refine WP.skip ?_
  refine WP.seq ?_
  refine WP.region ?_
  refine OPS.val rfl rfl rfl (Ev.mvS rfl) ?_
  refine OPS.call (d := some 31) rfl rfl rfl (EvC.func (fun_run rfl)) (slValues R rn.length cr w) ?_
  rintro _ w ⟨gv, rfl, Hc⟩
  refine ⟨_, rfl, ?_⟩
  replace H := SH.call (L1 := []) (Lv := []) (H.drop (List.nil_sublist _)) Hc
  clear Hc
  refine OPS.call (d := some 32) rfl rfl rfl (EvC.func (fun_run rfl)) (slSorted gv R rn cr w (hr.sh H) hrl (by have := H.own ⟨gv, 29, [.slice R rn.length cr]⟩ (by simp); simpa using this)) ?_
  rintro _ w ⟨S, c, Lo, rfl, hO, Hc⟩
  refine ⟨_, rfl, ?_⟩
  replace H := SH.call (L1 := []) (Lv := []) (H.drop (List.nil_sublist _)) Hc
  clear Hc
  have hcm := cmpT_nodup rn
  rw [← hsl] at hO
  rw [← hsl]
  refine OPS.val rfl rfl rfl (Ev.asS rfl) ?_
  refine OPS.nil ?_
  refine WP.seq ?_
  refine WP.seq ?_
  refine WP.region ?_
  refine OPS.val rfl rfl rfl (Ev.mvS rfl) ?_
  refine OPS.call (d := some 34) rfl rfl rfl (EvC.func (fun_run rfl)) (compS S c (srt rn) Lo w (by omega) hO (H.restart (List.Sublist.refl _))) ?_
  rintro _ w ⟨Lo', rfl, Hc⟩
  refine ⟨_, rfl, ?_⟩
  replace H := SH.call (L1 := []) (Lv := Lo) H Hc
  refine OPS.val rfl rfl rfl (Ev.len (el_run rfl) rfl) ?_
  refine OPS.val rfl rfl rfl (Ev.mvS rfl) ?_
  refine OPS.val rfl rfl rfl (Ev.len (el_run rfl) rfl) ?_
  refine OPS.val rfl rfl rfl (Ev.neq rfl rfl) ?_
  refine OPS.nil ?_
  refine WP.cond rfl (fun hc8 => ?_) (fun hc8 => ?_)
  · refine WP.seq ?_
    refine WP.region ?_
    refine OPS.val rfl rfl rfl (Ev.asI rfl) ?_
    refine OPS.nil ?_
    refine WP.ret ⟨_, rfl, ?_⟩
    have he : routeErr ts ns rt rn = 6 := by
      rw [he1, if_pos]
      have : (cmpT (srt rn) (srt rn).length).length ≠ rn.length := by simp at hc8; omega
      unfold twiceB
      rw [hsl] at this
      simpa using fun h => this (hcm.2 h)
    exact ⟨by rw [he0, he]; rfl, H.below⟩
  have he : routeErr ts ns rt rn = 0 := by
    rw [he1, if_neg]
    have : (cmpT (srt rn) (srt rn).length).length = rn.length := by simp at hc8; omega
    unfold twiceB
    rw [hsl] at this
    simpa using hcm.1 this
  refine WP.skip ?_
  refine WP.seq ?_
  refine WP.seq ?_
  refine WP.region ?_
  refine OPS.val rfl rfl rfl (Ev.mvS rfl) ?_
  refine OPS.val rfl rfl rfl (Ev.len (el_run rfl) rfl) ?_
  refine OPS.val rfl rfl rfl (Ev.gtr rfl rfl) ?_
  refine OPS.nil ?_
  refine WP.cond rfl (fun hc10 => ?_) (fun hc10 => ?_)
  · refine WP.seq ?_
    refine WP.region ?_
    refine OPS.val rfl rfl rfl (Ev.asI rfl) ?_
    refine OPS.nil ?_
    refine WP.ret ⟨_, rfl, ?_⟩
    exact ⟨by rw [he0, he, if_neg (by simp), if_pos (by simp at hc10; omega)]; rfl, H.below⟩
  refine WP.skip ?_
  refine WP.seq ?_
  refine WP.region ?_
  refine OPS.val rfl rfl rfl (Ev.asI rfl) ?_
  refine OPS.nil ?_
  refine WP.ret ⟨_, rfl, ?_⟩
  exact ⟨by rw [he0, he, if_neg (by simp), if_neg (by simp at hc10; omega)]; rfl, H.below⟩
end Go.Proofs.Ytfddebpeiilohaa
