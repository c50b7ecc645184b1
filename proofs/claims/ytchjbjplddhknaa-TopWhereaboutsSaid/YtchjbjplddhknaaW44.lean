/-
  Walks: TopWhereabouts where there are few events.
-/
import Derived.Test.YtchjbjplddhknaaW42
import Derived.Test.YtchjbjplddhknaaRows
import Derived.Test.YtchjbjplddhknaaHeld
set_option linter.all false
namespace Go.Proofs.Ytchjbjplddhknaa
open Go Go.W Go.RowKit

set_option maxHeartbeats 4000000 in
theorem topFew (f : Flt) (A : Option Addr) (ca : Nat) (B : Option Addr) (cb : Nat) (El : Option Addr) (l : List Evt) (ce : Nat) (parts t : Int) (w0 : World) (hf : FlAt w0 f A B) (hz : RowsAt 9 evC w0 El l) (hfit : ∀ x ∈ l, fits x.p) (hll : l.length ≤ 40)
    (hb : (!((decide ((l.length : Int) ≤ 40) && decide ((f.ds.length : Int) ≤ 40)) && decide ((f.ts.length : Int) ≤ 20)) || decide (16 < f.bk)) = false) (hd : 1 ≤ f.dv ∧ f.dv ≤ 256) :
    Calls Try.prog 3 #[.agg (flC f A ca B cb).toArray, .slice El l.length ce, .int .u64 parts, I t] w0 fun e w' => e = .returned (.bool true) ∧ Below w0.heap.size w0 w' := by
  have H := SH.refl w0
  have hbk : f.bk ≤ 16 := by
    have h := hb
    rw [Bool.or_eq_false_iff] at h
    simpa using h.2
  unfold flC
  refine Calls.ofWP Try.func3 rfl Try.results3 Try.ntmps3 rfl ?_
  refine WP.seq ?_
  refine WP.region ?_
  refine OPS.box rfl rfl rfl rfl (cA rfl) H ?_
  clear H; intro g4 w H
  refine OPS.val rfl rfl rfl (Ev.asB rfl) ?_
  refine OPS.nil ?_
  refine WP.seq ?_
  refine WP.seq ?_
  refine WP.region ?_
  refine OPS.val rfl rfl rfl ((by first | exact Ev.loadO 0 H rfl (agg_run rfl) (size_run rfl) (by first | assumption | rfl) rfl | exact Ev.loadO 1 H rfl (agg_run rfl) (size_run rfl) (by first | assumption | rfl) rfl | exact Ev.loadO 2 H rfl (agg_run rfl) (size_run rfl) (by first | assumption | rfl) rfl | exact Ev.loadO 3 H rfl (agg_run rfl) (size_run rfl) (by first | assumption | rfl) rfl | exact Ev.loadO 4 H rfl (agg_run rfl) (size_run rfl) (by first | assumption | rfl) rfl | exact Ev.loadO 5 H rfl (agg_run rfl) (size_run rfl) (by first | assumption | rfl) rfl | exact Ev.loadO 6 H rfl (agg_run rfl) (size_run rfl) (by first | assumption | rfl) rfl | (change Ev _ _ _ _ (Op.load 24 (Operand.tmp 4)) _; fail))) ?_
  refine OPS.val rfl rfl rfl (Ev.mvS rfl) ?_
  refine OPS.call (d := some 26) rfl rfl rfl (EvC.func (fun_run rfl)) (few f A ca B cb El l.length ce _) ?_
  rintro _ w ⟨rfl, hb⟩
  refine ⟨_, rfl, ?_⟩
  replace H := H.toBelow hb; clear hb
  refine OPS.val rfl rfl rfl (Ev.not rfl) ?_
  refine OPS.val rfl rfl rfl (Ev.mvB rfl) ?_
  refine OPS.gval rfl rfl rfl rfl rfl (fun hg => Ev.fieldAddr (fld_run rfl) (by first | rfl | exact gvE hg rfl)) ?_
  refine OPS.gval rfl rfl rfl rfl rfl (fun hg => Ev.load1 (agg_run rfl) (by first | rfl | exact gvE hg rfl) (by first | exact H.ldL 0 rfl _ rfl | exact H.ldL 1 rfl _ rfl | exact H.ldL 2 rfl _ rfl | exact H.ldL 3 rfl _ rfl | exact H.ldL 4 rfl _ rfl | exact H.ldL 5 rfl _ rfl | exact H.ldL 6 rfl _ rfl | exact H.ldL 7 rfl _ rfl | exact H.ld0 (by assumption) | assumption | exact H.ldS (by assumption) (by assumption))) ?_
  refine OPS.gval rfl rfl rfl rfl rfl (fun hg => Ev.gtr (by first | rfl | exact gvE hg rfl) (by first | rfl | exact gvE hg rfl)) ?_
  refine OPS.val rfl rfl rfl ((by first | exact Ev.pickOr rfl rfl rfl | exact Ev.pickAnd rfl rfl rfl)) ?_
  refine OPS.nil ?_
  refine WP.cond rfl (fun hc1 => ?_) (fun hc1 => ?_)
  · refine WP.seq ?_
    exact absurd (hb.symm.trans hc1) (by simp)
  refine WP.skip ?_
  refine WP.seq ?_
  refine WP.region ?_
  refine OPS.val rfl rfl rfl (Ev.fieldAddr (fld_run rfl) rfl) ?_
  refine OPS.val rfl rfl rfl (Ev.load1 (agg_run rfl) rfl (by first | exact H.ldL 0 rfl _ rfl | exact H.ldL 1 rfl _ rfl | exact H.ldL 2 rfl _ rfl | exact H.ldL 3 rfl _ rfl | exact H.ldL 4 rfl _ rfl | exact H.ldL 5 rfl _ rfl | exact H.ldL 6 rfl _ rfl | exact H.ldL 7 rfl _ rfl | exact H.ld0 (by assumption) | assumption | exact H.ldS (by assumption) (by assumption))) ?_
  refine OPS.val rfl rfl rfl (Ev.mvS rfl) ?_
  refine OPS.val rfl rfl rfl (Ev.mvI rfl) ?_
  refine OPS.call (d := some 39) rfl rfl rfl (EvC.func (fun_run rfl)) (splitOk f.dv hd El l ce parts _ (hz.sh H) (by omega)) ?_
  rintro _ w ⟨gR, gM, es, rfl, hT, hS, Hc⟩
  refine ⟨_, rfl, ?_⟩
  have hsz := H.size
  replace H := H.toBelow Hc.below
  replace H : SH w0 [] w [⟨g4, 24, flC f A ca B cb⟩] := H
  have HB := H
  replace H := H.restart (List.Sublist.refl _)
  refine OPS.val rfl rfl rfl (Ev.mvT rfl) ?_
  refine OPS.val rfl rfl rfl (Ev.extract rfl rfl) ?_
  refine OPS.val rfl rfl rfl (Ev.extract rfl rfl) ?_
  refine OPS.alloc rfl rfl rfl rfl (zero_run rfl) rfl H ?_
  clear H; intro g9 w H
  first | refine OPS.store 0 _ rfl rfl rfl (size_run rfl) rfl (cA rfl) rfl rfl H rfl (by simp) ?_ | refine OPS.store 1 _ rfl rfl rfl (size_run rfl) rfl (cA rfl) rfl rfl H rfl (by simp) ?_ | refine OPS.store 2 _ rfl rfl rfl (size_run rfl) rfl (cA rfl) rfl rfl H rfl (by simp) ?_ | refine OPS.store 3 _ rfl rfl rfl (size_run rfl) rfl (cA rfl) rfl rfl H rfl (by simp) ?_ | refine OPS.store 4 _ rfl rfl rfl (size_run rfl) rfl (cA rfl) rfl rfl H rfl (by simp) ?_ | refine OPS.store 5 _ rfl rfl rfl (size_run rfl) rfl (cA rfl) rfl rfl H rfl (by simp) ?_ | refine OPS.store 6 _ rfl rfl rfl (size_run rfl) rfl (cA rfl) rfl rfl H rfl (by simp) ?_ | refine OPS.store 7 _ rfl rfl rfl (size_run rfl) rfl (cA rfl) rfl rfl H rfl (by simp) ?_ | refine OPS.store 8 _ rfl rfl rfl (size_run rfl) rfl (cA rfl) rfl rfl H rfl (by simp) ?_
  clear H; intro w H; try simp only [List.set_cons_zero, List.set_cons_succ, putL, Nat.zero_add] at H
  refine OPS.val rfl rfl rfl (Ev.asB rfl) ?_
  refine OPS.nil ?_
  replace H : SH _ _ w [⟨g9, 30, arr3 gR 3⟩, ⟨g4, 24, flC f A ca B cb⟩] := H
  replace hT := hT.keep HB (by simp) H
  replace H := SH.cont HB H
  have hG := hS.good
  have hlen := hS.len 0 (by omega)
  have hok := hG.ok
  have hsl := srtE_len (es 0)
  have hfs : ∀ x ∈ srtE (es 0), fits x.p := fun x hx => hfit x (hS.src x ((srtE_perm _).subset hx))
  obtain ⟨m1, d1⟩ := mrg_ok hG (srtE (es 2)) (es 1) (hS.sub 1 (by omega)) (fun y hy => hS.sub 2 (by omega) y ((srtE_perm _).subset hy)) (hS.nd 1 (by omega))
  have len1 := mrg_len f.dv (srtE (es 2)) (es 1)
  rw [srtE_len] at len1
  have hl1 := hS.len 1 (by omega)
  have hl2 := hS.len 2 (by omega)
  have hm1 : ∀ y, y ∈ mrgL f.dv (es 1) (srtE (es 2)) ↔ y ∈ es 0 := fun y => by
    rw [m1, (srtE_perm _).mem_iff]
    exact ⟨fun h => h.elim (hS.sub 1 (by omega) y) (hS.sub 2 (by omega) y), hS.cov y⟩
  obtain ⟨M1, hM1⟩ : ∃ M1, M1 = mrgL f.dv (es 1) (srtE (es 2)) := ⟨_, rfl⟩
  rw [← hM1] at d1 len1
  simp only [← hM1] at hm1
  have e1' : srtE M1 = srtE (es 0) := srt_same d1 (hS.nd 0 (by omega)) hm1
  obtain ⟨m2, d2⟩ := mrg_ok hG (srtE M1) (es 2) (hS.sub 2 (by omega)) (fun y hy => (hm1 y).1 ((srtE_perm _).subset hy)) (hS.nd 2 (by omega))
  have len2 := mrg_len f.dv (srtE M1) (es 2)
  rw [srtE_len] at len2
  have hm2 : ∀ y, y ∈ mrgL f.dv (es 2) (srtE M1) ↔ y ∈ es 0 := fun y => by
    rw [m2, (srtE_perm _).mem_iff, hm1]
    exact ⟨fun h => h.elim (hS.sub 2 (by omega) y) id, .inr⟩
  obtain ⟨M2, hM2⟩ : ∃ M2, M2 = mrgL f.dv (es 2) (srtE M1) := ⟨_, rfl⟩
  rw [← hM2] at d2 len2
  simp only [← hM2] at hm2
  have e2' : srtE M2 = srtE (es 0) := srt_same d2 (hS.nd 0 (by omega)) hm2
  have q1 : M1.length ≤ 40 := by rw [← srtE_len M1, e1', srtE_len]; omega
  have q2 : M2.length ≤ 40 := by rw [← srtE_len M2, e2', srtE_len]; omega
  obtain ⟨E, hE⟩ : ∃ E, E = srtE (es 0) := ⟨_, rfl⟩
  rw [← hE] at hok hsl e1' e2'
  simp only [← hE] at hfs
  have hE1 : E.length = M1.length := by rw [← e1', srtE_len]
  have hE2 : E.length = M2.length := by rw [← e2', srtE_len]
  refine WP.seq ?_
  refine WP.seq ?_
  refine WP.region ?_
  refine OPS.val rfl rfl rfl (Ev.mvB rfl) ?_
  refine OPS.val rfl rfl rfl (Ev.not rfl) ?_
  refine OPS.nil ?_
  refine WP.cond rfl (fun hc4 => ?_) (fun hc4 => ?_)
  · refine WP.seq ?_
    simp at hc4
  refine WP.skip ?_
  refine WP.seq ?_
  refine WP.region ?_
  refine OPS.val rfl rfl rfl (Ev.indexAddrA (j := 0) (arr_run rfl) (size_run rfl) rfl rfl rfl (by decide)) ?_
  refine OPS.val rfl rfl rfl (Ev.load1 (agg_run rfl) rfl (H.ldL 0 rfl 0 rfl)) ?_
  refine OPS.call (d := some 57) rfl rfl rfl (EvC.func (fun_run rfl)) (events f.dv (gR 0) (gM 0) (es 0) w (hT.rp 0 (by omega)) (by omega)) ?_
  rintro _ w ⟨A0, c0, L0, rfl, hO0, Hc⟩
  refine ⟨_, rfl, ?_⟩
  replace hT := hT.below Hc.below
  replace H := SH.call (Lv := []) (by rw [List.append_nil]; exact H) Hc
  replace H : SH w0 [] w (⟨g9, 30, arr3 gR 3⟩ :: ⟨g4, 24, flC f A ca B cb⟩ :: L0) := H
  have hO0 : OwnS A0 c0 E.length (E.flatMap evC) 56 9 L0 := by rw [hsl, hE]; exact hO0
  have hA0 := OwnS.cap0 hO0
  have t0 := OwnS.tagG hO0
  have hR1 := hT.rp 1 (by omega)
  have hR2 := hT.rp 2 (by omega)
  have hne := hT.ne 1 2 (by omega) (by omega) (by omega)
  have hf1 := Nat.le_trans hsz (hT.fr 1 (by omega))
  have hf2 := Nat.le_trans hsz (hT.fr 2 (by omega))
  clear hT
  refine OPS.val rfl rfl rfl (Ev.asS rfl) ?_
  refine OPS.nil ?_
  refine WP.seq ?_
  refine WP.seq ?_
  refine WP.region ?_
  refine OPS.val rfl rfl rfl (Ev.indexAddrA (j := 1) (arr_run rfl) (size_run rfl) rfl rfl rfl (by decide)) ?_
  refine OPS.val rfl rfl rfl (Ev.load1 (agg_run rfl) rfl (H.ldL 0 rfl 1 rfl)) ?_
  refine OPS.val rfl rfl rfl (Ev.indexAddrA (j := 2) (arr_run rfl) (size_run rfl) rfl rfl rfl (by decide)) ?_
  refine OPS.val rfl rfl rfl (Ev.load1 (agg_run rfl) rfl (H.ldL 0 rfl 2 rfl)) ?_
  refine OPS.call (d := some 62) rfl rfl rfl (EvC.func (fun_run rfl)) (mergeR f.dv hd.2 (gR 1) (gM 1) (gR 2) (gM 2) (es 0) (es 1) (es 2) w hR1 hR2 hne hG (hS.sub 1 (by omega)) (hS.sub 2 (by omega)) (hS.nd 1 (by omega)) (by omega)) ?_
  rintro _ w ⟨rfl, Hc, hR1'⟩
  refine ⟨_, rfl, ?_⟩
  have H2 := SH.back H Hc (fun g hg => by
    have hg : g = gM 1 := by simpa using hg
    subst hg
    exact ⟨.inl hf1, hR1.mp.notMem H⟩)
  rw [List.nil_append] at H2
  replace hR2 := hR2.sh Hc (by simpa using hR2.ne hR1) (by simpa using hne.symm)
  rw [← hM1] at hR1'
  clear H hR1; have H := H2; clear H2
  have hR1 := hR1'
  clear hR1'
  refine OPS.val rfl rfl rfl (Ev.neq rfl rfl) ?_
  refine OPS.val rfl rfl rfl (Ev.mvB rfl) ?_
  refine OPS.gyes rfl rfl rfl rfl ?_
  refine OPS.val rfl rfl rfl (Ev.indexAddrA (j := 2) (arr_run rfl) (size_run rfl) rfl rfl rfl (by decide)) ?_
  refine OPS.gyes rfl rfl rfl rfl ?_
  refine OPS.val rfl rfl rfl (Ev.load1 (agg_run rfl) rfl (H.ldL 0 rfl 2 rfl)) ?_
  refine OPS.gyes rfl rfl rfl rfl ?_
  refine OPS.val rfl rfl rfl (Ev.indexAddrA (j := 1) (arr_run rfl) (size_run rfl) rfl rfl rfl (by decide)) ?_
  refine OPS.gyes rfl rfl rfl rfl ?_
  refine OPS.val rfl rfl rfl (Ev.load1 (agg_run rfl) rfl (H.ldL 0 rfl 1 rfl)) ?_
  refine OPS.gyes rfl rfl rfl rfl ?_
  refine OPS.call (d := some 69) rfl rfl rfl (EvC.func (fun_run rfl)) (mergeR f.dv hd.2 (gR 2) (gM 2) (gR 1) (gM 1) (es 0) (es 2) M1 w hR2 hR1 hne.symm hG (hS.sub 2 (by omega)) (fun y hy => (hm1 y).1 hy) (hS.nd 2 (by omega)) (by omega)) ?_
  rintro _ w ⟨rfl, Hc, hR2'⟩
  refine ⟨_, rfl, ?_⟩
  have H2 := SH.back H Hc (fun g hg => by
    have hg : g = gM 2 := by simpa using hg
    subst hg
    exact ⟨.inl hf2, hR2.mp.notMem H⟩)
  rw [List.nil_append] at H2
  replace hR1 := hR1.sh Hc (by simpa using hR1.ne hR2) (by simpa using hne)
  rw [← hM2] at hR2'
  clear H hR2; have H := H2; clear H2
  have hR2 := hR2'
  clear hR2'
  refine OPS.gyes rfl rfl rfl rfl ?_
  refine OPS.val rfl rfl rfl (Ev.neq rfl rfl) ?_
  refine OPS.val rfl rfl rfl (Ev.pickF rfl rfl rfl) ?_
  refine OPS.nil ?_
  refine WP.cond rfl (fun hc7 => ?_) (fun hc7 => ?_)
  · refine WP.seq ?_
    simp at hc7
  refine WP.skip ?_
  refine WP.seq ?_
  refine WP.region ?_
  refine OPS.val rfl rfl rfl (Ev.asS rfl) ?_
  refine OPS.nil ?_
  refine WP.seq ?_
  refine WP.seq ?_
  refine WP.region ?_
  refine OPS.val rfl rfl rfl (Ev.asI rfl) ?_
  refine OPS.nil ?_
  refine WP.block ?_
  refine WP.loop [8, 12, 13, 14, 15, 16, 17, 18, 19, 20, 21, 22, 23, 72, 73, 74, 75, 76, 77, 78, 79, 80, 81, 82, 83, 84, 85, 86, 87, 88, 89, 90, 91, 92, 93, 94, 95, 96, 97, 98, 99, 100, 101, 102, 103, 104, 105, 106, 107, 108, 109, 110, 111, 112, 113, 114, 115, 116, 117, 118, 119, 120, 121, 122, 123, 124, 125, 126, 127, 128, 129, 130, 131, 132, 133, 134, 135, 136, 137, 138, 139, 140, 141, 142, 143, 144, 145, 146, 147, 148, 149, 150, 151, 152, 153, 154, 155, 156, 157, 158, 159, 160, 161, 162, 163, 164, 165, 166, 167, 168] (fun k e w' => ∃ (j : Nat) (As : Option Addr) (cs : Nat) (Ls : List Blk), j + k = f.bk.toNat ∧ e 13 = I j ∧ e 12 = .slice As (spotL f E t j).length cs ∧ OwnS As cs (spotL f E t j).length ((spotL f E t j).flatMap spC) 42 4 Ls ∧ RepR w' f.dv (gR 1) (gM 1) M1 ∧ RepR w' f.dv (gR 2) (gM 2) M2 ∧ SH w0 [] w' (⟨g9, 30, arr3 gR 3⟩ :: ⟨g4, 24, flC f A ca B cb⟩ :: (L0 ++ Ls))) (f.bk.toNat) (⟨0, none, 0, [], by omega, rfl, by have h0 : spotL f E t 0 = [] := (by unfold spotL; split <;> rfl); rw [h0]; rfl, by have h0 : spotL f E t 0 = [] := (by unfold spotL; split <;> rfl); rw [h0]; exact OwnS.nil, hR1, hR2, by rw [List.append_nil]; exact H⟩) ?_
  clear H hR1 hR2
  rintro k u wh ⟨j, As, cs, Ls, hk, h13, h12, hOs, hR1, hR2, H⟩
  refine WP.know (t := 13) h13 (WP.know (t := 12) h12 ?_)
  refine WP.seq ?_
  refine WP.seq ?_
  refine WP.region ?_
  refine OPS.val rfl rfl rfl (Ev.mvI rfl) ?_
  refine OPS.val rfl rfl rfl (Ev.fieldAddr (fld_run rfl) rfl) ?_
  refine OPS.val rfl rfl rfl (Ev.load1 (agg_run rfl) rfl (by first | exact H.ldL 0 rfl _ rfl | exact H.ldL 1 rfl _ rfl | exact H.ldL 2 rfl _ rfl | exact H.ldL 3 rfl _ rfl | exact H.ldL 4 rfl _ rfl | exact H.ldL 5 rfl _ rfl | exact H.ldL 6 rfl _ rfl | exact H.ldL 7 rfl _ rfl | exact H.ld0 (by assumption) | assumption | exact H.ldS (by assumption) (by assumption))) ?_
  refine OPS.val rfl rfl rfl (Ev.lss rfl rfl) ?_
  refine OPS.nil ?_
  refine WP.cond rfl (fun hc11 => ?_) (fun hc11 => ?_)
  · have hjb : (j : Int) < f.bk := by simpa using hc11
    have hbk0 : (0 : Int) ≤ f.bk := by omega
    have ts := OwnS.tagG hOs
    have htg : ∀ b ∈ (⟨g9, 30, arr3 gR 3⟩ : Blk) :: ⟨g4, 24, flC f A ca B cb⟩ :: (L0 ++ Ls), b.T ≠ 61 := by
      intro b hb
      simp only [List.mem_cons, List.mem_append] at hb
      rcases hb with rfl | rfl | hb | hb
      · simp
      · simp
      · rw [t0 b hb]; simp
      · rw [ts b hb]; simp
    have HB := H
    have o1 := hR1.off H htg
    have o2 := hR2.off H htg
    replace H := H.restart (List.Sublist.refl _)
    have hcy := stays_count f j E hok
    obtain ⟨X, hX⟩ : ∃ X, X = staysL f j E := ⟨_, rfl⟩
    have hXl : X.length ≤ 41 := by
      have := stays_len f j E
      rw [hX]; omega
    have hst := stays f j hjb A ca B cb A0 E c0 wh (hf.sh (SH.cont HB H)) (OwnS.rowsG (enc := evC) (fun _ => rfl) hO0 H (fun b hb => by simp [hb])) hok hfs (by omega) hA0
    rw [hsl, ← hX] at hst
    refine WP.skip ?_
    refine WP.seq ?_
    refine WP.block ?_
    refine WP.seq ?_
    refine WP.region ?_
    refine OPS.val rfl rfl rfl ((by first | exact Ev.loadO 0 H rfl (agg_run rfl) (size_run rfl) (by first | assumption | rfl) rfl | exact Ev.loadO 1 H rfl (agg_run rfl) (size_run rfl) (by first | assumption | rfl) rfl | exact Ev.loadO 2 H rfl (agg_run rfl) (size_run rfl) (by first | assumption | rfl) rfl | exact Ev.loadO 3 H rfl (agg_run rfl) (size_run rfl) (by first | assumption | rfl) rfl | exact Ev.loadO 4 H rfl (agg_run rfl) (size_run rfl) (by first | assumption | rfl) rfl | exact Ev.loadO 5 H rfl (agg_run rfl) (size_run rfl) (by first | assumption | rfl) rfl | exact Ev.loadO 6 H rfl (agg_run rfl) (size_run rfl) (by first | assumption | rfl) rfl | (change Ev _ _ _ _ (Op.load 24 (Operand.tmp 4)) _; fail))) ?_
    refine OPS.val rfl rfl rfl (Ev.mvS rfl) ?_
    refine OPS.val rfl rfl rfl (Ev.mvI rfl) ?_
    refine OPS.call (d := some 82) rfl rfl rfl (EvC.func (fun_run rfl)) (hst) ?_
    rintro _ w ⟨Ax, cx, Lx, rfl, hOx, Hc⟩
    refine ⟨_, rfl, ?_⟩
    replace H := SH.call (Lv := []) (by rw [List.append_nil]; exact H) Hc
    replace H : SH _ _ w (⟨g9, 30, arr3 gR 3⟩ :: ⟨g4, 24, flC f A ca B cb⟩ :: ((L0 ++ Ls) ++ Lx)) := H
    refine OPS.val rfl rfl rfl (Ev.mvT rfl) ?_
    refine OPS.val rfl rfl rfl (Ev.extract rfl rfl) ?_
    refine OPS.val rfl rfl rfl (Ev.extract rfl rfl) ?_
    refine OPS.val rfl rfl rfl (Ev.asS rfl) ?_
    refine OPS.val rfl rfl rfl (Ev.asI rfl) ?_
    refine OPS.nil ?_
    refine WP.seq ?_
    refine WP.rheldC [16, 17, 85, 86, 87, 88, 89, 90, 91, 92, 93] (fun u w' => ∃ (Ay : Option Addr) (cy : Nat) (Ly : List Blk), u 16 = .slice Ay X.length cy ∧ u 17 = I (flErr f) ∧ OwnS Ay cy X.length (X.flatMap stC) 48 6 Ly ∧ SH wh (((⟨g9, 30, arr3 gR 3⟩ : Blk) :: ⟨g4, 24, flC f A ca B cb⟩ :: (L0 ++ Ls)).map (·.g)) w' (⟨g9, 30, arr3 gR 3⟩ :: ⟨g4, 24, flC f A ca B cb⟩ :: (((L0 ++ Ls) ++ Lx) ++ Ly))) mixed H ?_ ?_
    · clear H; intro w hbw14 H
      refine OPH.take 0 rfl rfl rfl rfl (by kernel_rfl) (by kernel_rfl) (by kernel_rfl) rfl (by first | exact H | exact H.drop (List.sublist_cons_self _ _) | exact H.drop ((List.sublist_cons_self _ _).trans (List.sublist_cons_self _ _)) | exact H.drop ((List.sublist_cons_self _ _).trans ((List.sublist_cons_self _ _).trans (List.sublist_cons_self _ _))) | exact H.drop ((List.sublist_cons_self _ _).trans ((List.sublist_cons_self _ _).trans ((List.sublist_cons_self _ _).trans (List.sublist_cons_self _ _)))) | exact H.drop ((List.sublist_cons_self _ _).trans ((List.sublist_cons_self _ _).trans ((List.sublist_cons_self _ _).trans ((List.sublist_cons_self _ _).trans (List.sublist_cons_self _ _)))))) (fun w H => Ev.loadO 1 H rfl (agg_run rfl) (size_run rfl) rfl rfl) ?_
      refine OPH.take 1 rfl rfl rfl rfl (by kernel_rfl) (by kernel_rfl) (by kernel_rfl) rfl (by first | exact H | exact H.drop (List.sublist_cons_self _ _) | exact H.drop ((List.sublist_cons_self _ _).trans (List.sublist_cons_self _ _)) | exact H.drop ((List.sublist_cons_self _ _).trans ((List.sublist_cons_self _ _).trans (List.sublist_cons_self _ _))) | exact H.drop ((List.sublist_cons_self _ _).trans ((List.sublist_cons_self _ _).trans ((List.sublist_cons_self _ _).trans (List.sublist_cons_self _ _)))) | exact H.drop ((List.sublist_cons_self _ _).trans ((List.sublist_cons_self _ _).trans ((List.sublist_cons_self _ _).trans ((List.sublist_cons_self _ _).trans (List.sublist_cons_self _ _)))))) (fun w H => Ev.indexAddrA (j := 1) (arr_run rfl) (size_run rfl) rfl rfl rfl (by decide)) ?_
      refine OPH.take 2 rfl rfl rfl rfl (by kernel_rfl) (by kernel_rfl) (by kernel_rfl) rfl (by first | exact H | exact H.drop (List.sublist_cons_self _ _) | exact H.drop ((List.sublist_cons_self _ _).trans (List.sublist_cons_self _ _)) | exact H.drop ((List.sublist_cons_self _ _).trans ((List.sublist_cons_self _ _).trans (List.sublist_cons_self _ _))) | exact H.drop ((List.sublist_cons_self _ _).trans ((List.sublist_cons_self _ _).trans ((List.sublist_cons_self _ _).trans (List.sublist_cons_self _ _)))) | exact H.drop ((List.sublist_cons_self _ _).trans ((List.sublist_cons_self _ _).trans ((List.sublist_cons_self _ _).trans ((List.sublist_cons_self _ _).trans (List.sublist_cons_self _ _)))))) (fun w H => Ev.load1 (agg_run rfl) rfl (H.ldL 0 rfl 1 rfl)) ?_
      refine OPH.take 4 rfl rfl rfl rfl (by kernel_rfl) (by kernel_rfl) (by kernel_rfl) rfl (by first | exact H | exact H.drop (List.sublist_cons_self _ _) | exact H.drop ((List.sublist_cons_self _ _).trans (List.sublist_cons_self _ _)) | exact H.drop ((List.sublist_cons_self _ _).trans ((List.sublist_cons_self _ _).trans (List.sublist_cons_self _ _))) | exact H.drop ((List.sublist_cons_self _ _).trans ((List.sublist_cons_self _ _).trans ((List.sublist_cons_self _ _).trans (List.sublist_cons_self _ _)))) | exact H.drop ((List.sublist_cons_self _ _).trans ((List.sublist_cons_self _ _).trans ((List.sublist_cons_self _ _).trans ((List.sublist_cons_self _ _).trans (List.sublist_cons_self _ _)))))) (fun w H => Ev.mvI rfl) ?_
      refine OPH.all [3] (by kernel_rfl) (by simp) rfl ?_
      intro i hi; simp only [List.mem_cons, List.not_mem_nil, or_false] at hi
      rcases hi with rfl
      · refine ⟨_, rfl, ?_⟩
        refine OPS.call (d := some 89) rfl rfl rfl (EvC.func (fun_run rfl)) (events f.dv (gR 1) (gM 1) M1 w (hR1.sh H o1.1 o1.2) (by omega)) ?_
        rintro _ w ⟨A1, c1, L1, rfl, hO1, Hc⟩
        refine ⟨_, rfl, ?_⟩
        replace H := H.toBelow Hc.below
        have hO1 : OwnS A1 c1 (srtE M1).length ((srtE M1).flatMap evC) 56 9 L1 := by rw [srtE_len]; exact hO1
        have hr1 := OwnS.rowsG (enc := evC) (fun _ => rfl) hO1 Hc (fun b hb => hb)
        have hc10 := OwnS.cap0 hO1
        rw [e1'] at hr1
        refine OPS.nil ?_
        refine ⟨(by first | exact H | exact H.drop (List.sublist_cons_self _ _) | exact H.drop ((List.sublist_cons_self _ _).trans (List.sublist_cons_self _ _)) | exact H.drop ((List.sublist_cons_self _ _).trans ((List.sublist_cons_self _ _).trans (List.sublist_cons_self _ _))) | exact H.drop ((List.sublist_cons_self _ _).trans ((List.sublist_cons_self _ _).trans ((List.sublist_cons_self _ _).trans (List.sublist_cons_self _ _)))) | exact H.drop ((List.sublist_cons_self _ _).trans ((List.sublist_cons_self _ _).trans ((List.sublist_cons_self _ _).trans ((List.sublist_cons_self _ _).trans (List.sublist_cons_self _ _)))))), ?_⟩
        refine OPH.all [5] (by kernel_rfl) (by simp) rfl ?_
        intro i hi; simp only [List.mem_cons, List.not_mem_nil, or_false] at hi
        rcases hi with rfl
        · refine ⟨_, rfl, ?_⟩
          have hst1 := stays f j hjb A ca B cb A1 E c1 w (hf.sh (SH.cont HB H)) hr1 hok hfs (by omega) hc10
          rw [hE1, ← hX] at hst1
          refine OPS.call (d := some 91) rfl rfl rfl (EvC.func (fun_run rfl)) hst1 ?_
          rintro _ w ⟨Ay, cy, Ly, rfl, hOy, Hc⟩
          refine ⟨_, rfl, ?_⟩
          have Hf : SH wh _ w ((⟨g9, 30, arr3 gR 3⟩ :: ⟨g4, 24, flC f A ca B cb⟩ :: ((L0 ++ Ls) ++ Lx)) ++ Ly) := SH.call (Lv := []) (by rw [List.append_nil]; exact H) Hc
          clear H Hc
          have H := Hf.drop (List.sublist_append_left _ _)
          refine OPS.nil ?_
          refine ⟨(by first | exact H | exact H.drop (List.sublist_cons_self _ _) | exact H.drop ((List.sublist_cons_self _ _).trans (List.sublist_cons_self _ _)) | exact H.drop ((List.sublist_cons_self _ _).trans ((List.sublist_cons_self _ _).trans (List.sublist_cons_self _ _))) | exact H.drop ((List.sublist_cons_self _ _).trans ((List.sublist_cons_self _ _).trans ((List.sublist_cons_self _ _).trans (List.sublist_cons_self _ _)))) | exact H.drop ((List.sublist_cons_self _ _).trans ((List.sublist_cons_self _ _).trans ((List.sublist_cons_self _ _).trans ((List.sublist_cons_self _ _).trans (List.sublist_cons_self _ _)))))), ?_⟩
          refine OPH.take 6 rfl rfl rfl rfl (by kernel_rfl) (by kernel_rfl) (by kernel_rfl) rfl (by first | exact H | exact H.drop (List.sublist_cons_self _ _) | exact H.drop ((List.sublist_cons_self _ _).trans (List.sublist_cons_self _ _)) | exact H.drop ((List.sublist_cons_self _ _).trans ((List.sublist_cons_self _ _).trans (List.sublist_cons_self _ _))) | exact H.drop ((List.sublist_cons_self _ _).trans ((List.sublist_cons_self _ _).trans ((List.sublist_cons_self _ _).trans (List.sublist_cons_self _ _)))) | exact H.drop ((List.sublist_cons_self _ _).trans ((List.sublist_cons_self _ _).trans ((List.sublist_cons_self _ _).trans ((List.sublist_cons_self _ _).trans (List.sublist_cons_self _ _)))))) (fun w H => Ev.mvT rfl) ?_
          refine OPH.take 7 rfl rfl rfl rfl (by kernel_rfl) (by kernel_rfl) (by kernel_rfl) rfl (by first | exact H | exact H.drop (List.sublist_cons_self _ _) | exact H.drop ((List.sublist_cons_self _ _).trans (List.sublist_cons_self _ _)) | exact H.drop ((List.sublist_cons_self _ _).trans ((List.sublist_cons_self _ _).trans (List.sublist_cons_self _ _))) | exact H.drop ((List.sublist_cons_self _ _).trans ((List.sublist_cons_self _ _).trans ((List.sublist_cons_self _ _).trans (List.sublist_cons_self _ _)))) | exact H.drop ((List.sublist_cons_self _ _).trans ((List.sublist_cons_self _ _).trans ((List.sublist_cons_self _ _).trans ((List.sublist_cons_self _ _).trans (List.sublist_cons_self _ _)))))) (fun w H => Ev.extract rfl rfl) ?_
          refine OPH.take 8 rfl rfl rfl rfl (by kernel_rfl) (by kernel_rfl) (by kernel_rfl) rfl (by first | exact H | exact H.drop (List.sublist_cons_self _ _) | exact H.drop ((List.sublist_cons_self _ _).trans (List.sublist_cons_self _ _)) | exact H.drop ((List.sublist_cons_self _ _).trans ((List.sublist_cons_self _ _).trans (List.sublist_cons_self _ _))) | exact H.drop ((List.sublist_cons_self _ _).trans ((List.sublist_cons_self _ _).trans ((List.sublist_cons_self _ _).trans (List.sublist_cons_self _ _)))) | exact H.drop ((List.sublist_cons_self _ _).trans ((List.sublist_cons_self _ _).trans ((List.sublist_cons_self _ _).trans ((List.sublist_cons_self _ _).trans (List.sublist_cons_self _ _)))))) (fun w H => Ev.extract rfl rfl) ?_
          refine OPH.take 9 rfl rfl rfl rfl (by kernel_rfl) (by kernel_rfl) (by kernel_rfl) rfl (by first | exact H | exact H.drop (List.sublist_cons_self _ _) | exact H.drop ((List.sublist_cons_self _ _).trans (List.sublist_cons_self _ _)) | exact H.drop ((List.sublist_cons_self _ _).trans ((List.sublist_cons_self _ _).trans (List.sublist_cons_self _ _))) | exact H.drop ((List.sublist_cons_self _ _).trans ((List.sublist_cons_self _ _).trans ((List.sublist_cons_self _ _).trans (List.sublist_cons_self _ _)))) | exact H.drop ((List.sublist_cons_self _ _).trans ((List.sublist_cons_self _ _).trans ((List.sublist_cons_self _ _).trans ((List.sublist_cons_self _ _).trans (List.sublist_cons_self _ _)))))) (fun w H => Ev.asS rfl) ?_
          refine OPH.take 10 rfl rfl rfl rfl (by kernel_rfl) (by kernel_rfl) (by kernel_rfl) rfl (by first | exact H | exact H.drop (List.sublist_cons_self _ _) | exact H.drop ((List.sublist_cons_self _ _).trans (List.sublist_cons_self _ _)) | exact H.drop ((List.sublist_cons_self _ _).trans ((List.sublist_cons_self _ _).trans (List.sublist_cons_self _ _))) | exact H.drop ((List.sublist_cons_self _ _).trans ((List.sublist_cons_self _ _).trans ((List.sublist_cons_self _ _).trans (List.sublist_cons_self _ _)))) | exact H.drop ((List.sublist_cons_self _ _).trans ((List.sublist_cons_self _ _).trans ((List.sublist_cons_self _ _).trans ((List.sublist_cons_self _ _).trans (List.sublist_cons_self _ _)))))) (fun w H => Ev.asI rfl) ?_
          refine OPH.done (by kernel_rfl) ?_
          exact ⟨(by repeat (first | exact Agree.refl _ _ | exact Agree.mix _ _ _ | refine Agree.upd rfl ?_ | refine Agree.mix2 rfl ?_)), Ay, cy, Ly, rfl, rfl, hOy, Hf⟩
    clear H
    rintro u14 w ⟨Ay, cy, Ly, h16, h16', hOy, H⟩
    refine WP.know (t := 16) h16 (WP.know (t := 17) h16' ?_)
    refine WP.seq ?_
    refine WP.rheldC [18, 19, 94, 95, 96, 97, 98, 99, 100, 101, 102] (fun u w' => ∃ (Az : Option Addr) (cz : Nat) (Lz : List Blk), u 18 = .slice Az X.length cz ∧ u 19 = I (flErr f) ∧ OwnS Az cz X.length (X.flatMap stC) 48 6 Lz ∧ SH wh (((⟨g9, 30, arr3 gR 3⟩ : Blk) :: ⟨g4, 24, flC f A ca B cb⟩ :: (L0 ++ Ls)).map (·.g)) w' (⟨g9, 30, arr3 gR 3⟩ :: ⟨g4, 24, flC f A ca B cb⟩ :: ((((L0 ++ Ls) ++ Lx) ++ Ly) ++ Lz))) mixed H ?_ ?_
    · clear H; intro w hbw15 H
      refine OPH.take 0 rfl rfl rfl rfl (by kernel_rfl) (by kernel_rfl) (by kernel_rfl) rfl (by first | exact H | exact H.drop (List.sublist_cons_self _ _) | exact H.drop ((List.sublist_cons_self _ _).trans (List.sublist_cons_self _ _)) | exact H.drop ((List.sublist_cons_self _ _).trans ((List.sublist_cons_self _ _).trans (List.sublist_cons_self _ _))) | exact H.drop ((List.sublist_cons_self _ _).trans ((List.sublist_cons_self _ _).trans ((List.sublist_cons_self _ _).trans (List.sublist_cons_self _ _)))) | exact H.drop ((List.sublist_cons_self _ _).trans ((List.sublist_cons_self _ _).trans ((List.sublist_cons_self _ _).trans ((List.sublist_cons_self _ _).trans (List.sublist_cons_self _ _)))))) (fun w H => Ev.loadO 1 H rfl (agg_run rfl) (size_run rfl) rfl rfl) ?_
      refine OPH.take 1 rfl rfl rfl rfl (by kernel_rfl) (by kernel_rfl) (by kernel_rfl) rfl (by first | exact H | exact H.drop (List.sublist_cons_self _ _) | exact H.drop ((List.sublist_cons_self _ _).trans (List.sublist_cons_self _ _)) | exact H.drop ((List.sublist_cons_self _ _).trans ((List.sublist_cons_self _ _).trans (List.sublist_cons_self _ _))) | exact H.drop ((List.sublist_cons_self _ _).trans ((List.sublist_cons_self _ _).trans ((List.sublist_cons_self _ _).trans (List.sublist_cons_self _ _)))) | exact H.drop ((List.sublist_cons_self _ _).trans ((List.sublist_cons_self _ _).trans ((List.sublist_cons_self _ _).trans ((List.sublist_cons_self _ _).trans (List.sublist_cons_self _ _)))))) (fun w H => Ev.indexAddrA (j := 2) (arr_run rfl) (size_run rfl) rfl rfl rfl (by decide)) ?_
      refine OPH.take 2 rfl rfl rfl rfl (by kernel_rfl) (by kernel_rfl) (by kernel_rfl) rfl (by first | exact H | exact H.drop (List.sublist_cons_self _ _) | exact H.drop ((List.sublist_cons_self _ _).trans (List.sublist_cons_self _ _)) | exact H.drop ((List.sublist_cons_self _ _).trans ((List.sublist_cons_self _ _).trans (List.sublist_cons_self _ _))) | exact H.drop ((List.sublist_cons_self _ _).trans ((List.sublist_cons_self _ _).trans ((List.sublist_cons_self _ _).trans (List.sublist_cons_self _ _)))) | exact H.drop ((List.sublist_cons_self _ _).trans ((List.sublist_cons_self _ _).trans ((List.sublist_cons_self _ _).trans ((List.sublist_cons_self _ _).trans (List.sublist_cons_self _ _)))))) (fun w H => Ev.load1 (agg_run rfl) rfl (H.ldL 0 rfl 2 rfl)) ?_
      refine OPH.take 4 rfl rfl rfl rfl (by kernel_rfl) (by kernel_rfl) (by kernel_rfl) rfl (by first | exact H | exact H.drop (List.sublist_cons_self _ _) | exact H.drop ((List.sublist_cons_self _ _).trans (List.sublist_cons_self _ _)) | exact H.drop ((List.sublist_cons_self _ _).trans ((List.sublist_cons_self _ _).trans (List.sublist_cons_self _ _))) | exact H.drop ((List.sublist_cons_self _ _).trans ((List.sublist_cons_self _ _).trans ((List.sublist_cons_self _ _).trans (List.sublist_cons_self _ _)))) | exact H.drop ((List.sublist_cons_self _ _).trans ((List.sublist_cons_self _ _).trans ((List.sublist_cons_self _ _).trans ((List.sublist_cons_self _ _).trans (List.sublist_cons_self _ _)))))) (fun w H => Ev.mvI rfl) ?_
      refine OPH.all [3] (by kernel_rfl) (by simp) rfl ?_
      intro i hi; simp only [List.mem_cons, List.not_mem_nil, or_false] at hi
      rcases hi with rfl
      · refine ⟨_, rfl, ?_⟩
        refine OPS.call (d := some 98) rfl rfl rfl (EvC.func (fun_run rfl)) (events f.dv (gR 2) (gM 2) M2 w (hR2.sh H o2.1 o2.2) (by omega)) ?_
        rintro _ w ⟨A2, c2, L2, rfl, hO2, Hc⟩
        refine ⟨_, rfl, ?_⟩
        replace H := H.toBelow Hc.below
        have hO2 : OwnS A2 c2 (srtE M2).length ((srtE M2).flatMap evC) 56 9 L2 := by rw [srtE_len]; exact hO2
        have hr2 := OwnS.rowsG (enc := evC) (fun _ => rfl) hO2 Hc (fun b hb => hb)
        have hc20 := OwnS.cap0 hO2
        rw [e2'] at hr2
        refine OPS.nil ?_
        refine ⟨(by first | exact H | exact H.drop (List.sublist_cons_self _ _) | exact H.drop ((List.sublist_cons_self _ _).trans (List.sublist_cons_self _ _)) | exact H.drop ((List.sublist_cons_self _ _).trans ((List.sublist_cons_self _ _).trans (List.sublist_cons_self _ _))) | exact H.drop ((List.sublist_cons_self _ _).trans ((List.sublist_cons_self _ _).trans ((List.sublist_cons_self _ _).trans (List.sublist_cons_self _ _)))) | exact H.drop ((List.sublist_cons_self _ _).trans ((List.sublist_cons_self _ _).trans ((List.sublist_cons_self _ _).trans ((List.sublist_cons_self _ _).trans (List.sublist_cons_self _ _)))))), ?_⟩
        refine OPH.all [5] (by kernel_rfl) (by simp) rfl ?_
        intro i hi; simp only [List.mem_cons, List.not_mem_nil, or_false] at hi
        rcases hi with rfl
        · refine ⟨_, rfl, ?_⟩
          have hst2 := stays f j hjb A ca B cb A2 E c2 w (hf.sh (SH.cont HB H)) hr2 hok hfs (by omega) hc20
          rw [hE2, ← hX] at hst2
          refine OPS.call (d := some 100) rfl rfl rfl (EvC.func (fun_run rfl)) hst2 ?_
          rintro _ w ⟨Az, cz, Lz, rfl, hOz, Hc⟩
          refine ⟨_, rfl, ?_⟩
          have Hf : SH wh _ w ((⟨g9, 30, arr3 gR 3⟩ :: ⟨g4, 24, flC f A ca B cb⟩ :: (((L0 ++ Ls) ++ Lx) ++ Ly)) ++ Lz) := SH.call (Lv := []) (by rw [List.append_nil]; exact H) Hc
          clear H Hc
          have H := Hf.drop (List.sublist_append_left _ _)
          refine OPS.nil ?_
          refine ⟨(by first | exact H | exact H.drop (List.sublist_cons_self _ _) | exact H.drop ((List.sublist_cons_self _ _).trans (List.sublist_cons_self _ _)) | exact H.drop ((List.sublist_cons_self _ _).trans ((List.sublist_cons_self _ _).trans (List.sublist_cons_self _ _))) | exact H.drop ((List.sublist_cons_self _ _).trans ((List.sublist_cons_self _ _).trans ((List.sublist_cons_self _ _).trans (List.sublist_cons_self _ _)))) | exact H.drop ((List.sublist_cons_self _ _).trans ((List.sublist_cons_self _ _).trans ((List.sublist_cons_self _ _).trans ((List.sublist_cons_self _ _).trans (List.sublist_cons_self _ _)))))), ?_⟩
          refine OPH.take 6 rfl rfl rfl rfl (by kernel_rfl) (by kernel_rfl) (by kernel_rfl) rfl (by first | exact H | exact H.drop (List.sublist_cons_self _ _) | exact H.drop ((List.sublist_cons_self _ _).trans (List.sublist_cons_self _ _)) | exact H.drop ((List.sublist_cons_self _ _).trans ((List.sublist_cons_self _ _).trans (List.sublist_cons_self _ _))) | exact H.drop ((List.sublist_cons_self _ _).trans ((List.sublist_cons_self _ _).trans ((List.sublist_cons_self _ _).trans (List.sublist_cons_self _ _)))) | exact H.drop ((List.sublist_cons_self _ _).trans ((List.sublist_cons_self _ _).trans ((List.sublist_cons_self _ _).trans ((List.sublist_cons_self _ _).trans (List.sublist_cons_self _ _)))))) (fun w H => Ev.mvT rfl) ?_
          refine OPH.take 7 rfl rfl rfl rfl (by kernel_rfl) (by kernel_rfl) (by kernel_rfl) rfl (by first | exact H | exact H.drop (List.sublist_cons_self _ _) | exact H.drop ((List.sublist_cons_self _ _).trans (List.sublist_cons_self _ _)) | exact H.drop ((List.sublist_cons_self _ _).trans ((List.sublist_cons_self _ _).trans (List.sublist_cons_self _ _))) | exact H.drop ((List.sublist_cons_self _ _).trans ((List.sublist_cons_self _ _).trans ((List.sublist_cons_self _ _).trans (List.sublist_cons_self _ _)))) | exact H.drop ((List.sublist_cons_self _ _).trans ((List.sublist_cons_self _ _).trans ((List.sublist_cons_self _ _).trans ((List.sublist_cons_self _ _).trans (List.sublist_cons_self _ _)))))) (fun w H => Ev.extract rfl rfl) ?_
          refine OPH.take 8 rfl rfl rfl rfl (by kernel_rfl) (by kernel_rfl) (by kernel_rfl) rfl (by first | exact H | exact H.drop (List.sublist_cons_self _ _) | exact H.drop ((List.sublist_cons_self _ _).trans (List.sublist_cons_self _ _)) | exact H.drop ((List.sublist_cons_self _ _).trans ((List.sublist_cons_self _ _).trans (List.sublist_cons_self _ _))) | exact H.drop ((List.sublist_cons_self _ _).trans ((List.sublist_cons_self _ _).trans ((List.sublist_cons_self _ _).trans (List.sublist_cons_self _ _)))) | exact H.drop ((List.sublist_cons_self _ _).trans ((List.sublist_cons_self _ _).trans ((List.sublist_cons_self _ _).trans ((List.sublist_cons_self _ _).trans (List.sublist_cons_self _ _)))))) (fun w H => Ev.extract rfl rfl) ?_
          refine OPH.take 9 rfl rfl rfl rfl (by kernel_rfl) (by kernel_rfl) (by kernel_rfl) rfl (by first | exact H | exact H.drop (List.sublist_cons_self _ _) | exact H.drop ((List.sublist_cons_self _ _).trans (List.sublist_cons_self _ _)) | exact H.drop ((List.sublist_cons_self _ _).trans ((List.sublist_cons_self _ _).trans (List.sublist_cons_self _ _))) | exact H.drop ((List.sublist_cons_self _ _).trans ((List.sublist_cons_self _ _).trans ((List.sublist_cons_self _ _).trans (List.sublist_cons_self _ _)))) | exact H.drop ((List.sublist_cons_self _ _).trans ((List.sublist_cons_self _ _).trans ((List.sublist_cons_self _ _).trans ((List.sublist_cons_self _ _).trans (List.sublist_cons_self _ _)))))) (fun w H => Ev.asS rfl) ?_
          refine OPH.take 10 rfl rfl rfl rfl (by kernel_rfl) (by kernel_rfl) (by kernel_rfl) rfl (by first | exact H | exact H.drop (List.sublist_cons_self _ _) | exact H.drop ((List.sublist_cons_self _ _).trans (List.sublist_cons_self _ _)) | exact H.drop ((List.sublist_cons_self _ _).trans ((List.sublist_cons_self _ _).trans (List.sublist_cons_self _ _))) | exact H.drop ((List.sublist_cons_self _ _).trans ((List.sublist_cons_self _ _).trans ((List.sublist_cons_self _ _).trans (List.sublist_cons_self _ _)))) | exact H.drop ((List.sublist_cons_self _ _).trans ((List.sublist_cons_self _ _).trans ((List.sublist_cons_self _ _).trans ((List.sublist_cons_self _ _).trans (List.sublist_cons_self _ _)))))) (fun w H => Ev.asI rfl) ?_
          refine OPH.done (by kernel_rfl) ?_
          exact ⟨(by repeat (first | exact Agree.refl _ _ | exact Agree.mix _ _ _ | refine Agree.upd rfl ?_ | refine Agree.mix2 rfl ?_)), Az, cz, Lz, rfl, rfl, hOz, Hf⟩
    clear H
    rintro u15 w ⟨Az, cz, Lz, h18, h18', hOz, H⟩
    refine WP.know (t := 18) h18 (WP.know (t := 19) h18' ?_)
    refine WP.seq ?_
    refine WP.seq ?_
    have rx := OwnS.rowsG (enc := stC) (fun _ => rfl) hOx H (fun b hb => by simp [hb])
    have ry := OwnS.rowsG (enc := stC) (fun _ => rfl) hOy H (fun b hb => by simp [hb])
    have rz := OwnS.rowsG (enc := stC) (fun _ => rfl) hOz H (fun b hb => by simp [hb])
    have hsame := fun (w' : World) (hb : Below w.heap.size w w') => sameStays Ax Ay X cx cy w' (rx.below hb) (ry.below hb) (by omega)
    have hsame2 := fun (w' : World) (hb : Below w.heap.size w w') => sameStays Ax Az X cx cz w' (rx.below hb) (rz.below hb) (by omega)
    refine WP.region ?_
    refine OPS.val rfl rfl rfl (Ev.mvI rfl) ?_
    refine OPS.val rfl rfl rfl (Ev.mvI rfl) ?_
    refine OPS.val rfl rfl rfl (Ev.neq rfl rfl) ?_
    refine OPS.val rfl rfl rfl (Ev.mvB rfl) ?_
    refine OPS.gval rfl rfl rfl rfl rfl (fun hg => Ev.mvI (by first | rfl | exact gvE hg rfl)) ?_
    refine OPS.gval rfl rfl rfl rfl rfl (fun hg => Ev.mvI (by first | rfl | exact gvE hg rfl)) ?_
    refine OPS.gval rfl rfl rfl rfl rfl (fun hg => Ev.neq (by first | rfl | exact gvE hg rfl) (by first | rfl | exact gvE hg rfl)) ?_
    refine OPS.val rfl rfl rfl ((by first | exact Ev.pickOr rfl rfl rfl | exact Ev.pickAnd rfl rfl rfl)) ?_
    refine OPS.val rfl rfl rfl (Ev.mvB rfl) ?_
    refine OPS.gval rfl rfl rfl rfl rfl (fun hg => Ev.mvS (by first | rfl | exact gvE hg rfl)) ?_
    refine OPS.gval rfl rfl rfl rfl rfl (fun hg => Ev.mvS (by first | rfl | exact gvE hg rfl)) ?_
    refine OPS.gcall0 (f := 10) (hsame w (Below.refl _ _)) (fun _ _ h => h) rfl rfl rfl rfl rfl (fun hg => EvC.conv (EvC.func (fun_run rfl)) (l2 (by first | rfl | exact gvE hg rfl) (by first | rfl | exact gvE hg rfl))) ?_
    intro w hbc; replace H := H.toBelow hbc
    refine OPS.gval rfl rfl rfl rfl rfl (fun hg => Ev.not (by first | rfl | exact gvE hg rfl)) ?_
    refine OPS.val rfl rfl rfl ((by first | exact Ev.pickOr rfl rfl rfl | exact Ev.pickAnd rfl rfl rfl)) ?_
    refine OPS.val rfl rfl rfl (Ev.mvB rfl) ?_
    refine OPS.gval rfl rfl rfl rfl rfl (fun hg => Ev.mvS (by first | rfl | exact gvE hg rfl)) ?_
    refine OPS.gval rfl rfl rfl rfl rfl (fun hg => Ev.mvS (by first | rfl | exact gvE hg rfl)) ?_
    refine OPS.gcall0 (f := 10) (hsame2 w hbc) (fun _ _ h => h) rfl rfl rfl rfl rfl (fun hg => EvC.conv (EvC.func (fun_run rfl)) (l2 (by first | rfl | exact gvE hg rfl) (by first | rfl | exact gvE hg rfl))) ?_
    intro w hbc; replace H := H.toBelow hbc
    refine OPS.gval rfl rfl rfl rfl rfl (fun hg => Ev.not (by first | rfl | exact gvE hg rfl)) ?_
    refine OPS.val rfl rfl rfl ((by first | exact Ev.pickOr rfl rfl rfl | exact Ev.pickAnd rfl rfl rfl)) ?_
    refine OPS.nil ?_
    refine WP.cond rfl (fun hc16 => ?_) (fun hc16 => ?_)
    · refine WP.seq ?_
      simp at hc16
    refine WP.skip ?_
    refine WP.seq ?_
    obtain ⟨s, hs⟩ : ∃ s, s = atS f E j t := ⟨_, rfl⟩
    have hcu := custAt f j hjb t A ca B cb A0 E c0 w (hf.sh (SH.cont HB H)) (OwnS.rowsG (enc := evC) (fun _ => rfl) hO0 H (fun b hb => by simp [hb])) hok hfs (by omega) hA0
    rw [hsl, ← hs] at hcu
    refine WP.region ?_
    refine OPS.val rfl rfl rfl ((by first | exact Ev.loadO 0 H rfl (agg_run rfl) (size_run rfl) (by first | assumption | rfl) rfl | exact Ev.loadO 1 H rfl (agg_run rfl) (size_run rfl) (by first | assumption | rfl) rfl | exact Ev.loadO 2 H rfl (agg_run rfl) (size_run rfl) (by first | assumption | rfl) rfl | exact Ev.loadO 3 H rfl (agg_run rfl) (size_run rfl) (by first | assumption | rfl) rfl | exact Ev.loadO 4 H rfl (agg_run rfl) (size_run rfl) (by first | assumption | rfl) rfl | exact Ev.loadO 5 H rfl (agg_run rfl) (size_run rfl) (by first | assumption | rfl) rfl | exact Ev.loadO 6 H rfl (agg_run rfl) (size_run rfl) (by first | assumption | rfl) rfl | (change Ev _ _ _ _ (Op.load 24 (Operand.tmp 4)) _; fail))) ?_
    refine OPS.val rfl rfl rfl (Ev.mvS rfl) ?_
    refine OPS.val rfl rfl rfl (Ev.mvI rfl) ?_
    refine OPS.val rfl rfl rfl (Ev.mvI rfl) ?_
    refine OPS.call (d := some 128) rfl rfl rfl (EvC.func (fun_run rfl)) (hcu) ?_
    rintro _ w ⟨rfl, Hc⟩
    refine ⟨_, rfl, ?_⟩
    replace H := H.toBelow Hc.below
    have hsub : (L0 ++ Ls).Sublist ((((L0 ++ Ls) ++ Lx) ++ Ly) ++ Lz) := (List.sublist_append_left _ Lx).trans ((List.sublist_append_left _ Ly).trans (List.sublist_append_left _ Lz))
    refine OPS.val rfl rfl rfl (Ev.mvT rfl) ?_
    refine OPS.val rfl rfl rfl (Ev.extract rfl rfl) ?_
    refine OPS.val rfl rfl rfl (Ev.extract rfl rfl) ?_
    refine OPS.alloc rfl rfl rfl rfl (zero_run rfl) rfl H ?_
    clear H; intro g20 w H
    first | refine OPS.store 0 _ rfl rfl rfl (size_run rfl) rfl (cA rfl) rfl rfl H rfl (by simp) ?_ | refine OPS.store 1 _ rfl rfl rfl (size_run rfl) rfl (cA rfl) rfl rfl H rfl (by simp) ?_ | refine OPS.store 2 _ rfl rfl rfl (size_run rfl) rfl (cA rfl) rfl rfl H rfl (by simp) ?_ | refine OPS.store 3 _ rfl rfl rfl (size_run rfl) rfl (cA rfl) rfl rfl H rfl (by simp) ?_ | refine OPS.store 4 _ rfl rfl rfl (size_run rfl) rfl (cA rfl) rfl rfl H rfl (by simp) ?_ | refine OPS.store 5 _ rfl rfl rfl (size_run rfl) rfl (cA rfl) rfl rfl H rfl (by simp) ?_ | refine OPS.store 6 _ rfl rfl rfl (size_run rfl) rfl (cA rfl) rfl rfl H rfl (by simp) ?_ | refine OPS.store 7 _ rfl rfl rfl (size_run rfl) rfl (cA rfl) rfl rfl H rfl (by simp) ?_ | refine OPS.store 8 _ rfl rfl rfl (size_run rfl) rfl (cA rfl) rfl rfl H rfl (by simp) ?_
    clear H; intro w H; try simp only [List.set_cons_zero, List.set_cons_succ, putL, Nat.zero_add] at H
    refine OPS.val rfl rfl rfl (Ev.asI rfl) ?_
    refine OPS.nil ?_
    replace H : SH _ _ w (⟨g20, 42, spC s⟩ :: ⟨g9, 30, arr3 gR 3⟩ :: ⟨g4, 24, flC f A ca B cb⟩ :: ((((L0 ++ Ls) ++ Lx) ++ Ly) ++ Lz)) := H
    refine WP.seq ?_
    refine WP.seq ?_
    refine WP.region ?_
    refine OPS.val rfl rfl rfl (Ev.mvI rfl) ?_
    refine OPS.val rfl rfl rfl (Ev.neq rfl rfl) ?_
    refine OPS.val rfl rfl rfl (Ev.mvB rfl) ?_
    refine OPS.gval rfl rfl rfl rfl rfl (fun hg => Ev.mvI (by first | rfl | exact gvE hg rfl)) ?_
    refine OPS.gval rfl rfl rfl rfl rfl (fun hg => Ev.neq (by first | rfl | exact gvE hg rfl) (by first | rfl | exact gvE hg rfl)) ?_
    refine OPS.val rfl rfl rfl ((by first | exact Ev.pickOr rfl rfl rfl | exact Ev.pickAnd rfl rfl rfl)) ?_
    refine OPS.nil ?_
    refine WP.cond rfl (fun hc19 => ?_) (fun hc19 => ?_)
    · have hae : atE f t ≠ 0 := by
        intro h
        have h2 := (atE_zero h).1
        simp [h, h2] at hc19
      have hsp : spotL f E t (j + 1) = spotL f E t j := by rw [spotL_no hae, spotL_no hae]
      refine WP.exit ?_
      refine XB.hit ?_
      refine WP.region ?_
      refine OPS.val rfl rfl rfl (Ev.mvI rfl) ?_
      refine OPS.val rfl rfl rfl (Ev.add rfl rfl (by unfold fits; omega)) ?_
      refine OPS.val rfl rfl rfl (Ev.asI rfl) ?_
      refine OPS.nil ?_
      first
        | exact ⟨(by repeat (first | exact Agree.refl _ _ | exact Agree.mix _ _ _ | refine Agree.upd rfl ?_ | refine Agree.mix2 rfl ?_)), k - 1, by omega, j + 1, A', c', Ls', by omega, rfl, by rw [hsp, List.length_append]; rfl, by rw [hsp, List.flatMap_append, List.length_append]; simpa using hO', hR1.sh H o1.1 o1.2, hR2.sh H o2.1 o2.2, (SH.cont HB H).drop ((List.sublist_cons_self _ _).trans (List.sublist_cons_self _ _))⟩
        | exact ⟨(by repeat (first | exact Agree.refl _ _ | exact Agree.mix _ _ _ | refine Agree.upd rfl ?_ | refine Agree.mix2 rfl ?_)), k - 1, by omega, j + 1, As, cs, Ls, by omega, rfl, by rw [hsp]; rfl, by rw [hsp]; exact hOs, hR1.sh H o1.1 o1.2, hR2.sh H o2.1 o2.2, (SH.cont HB H).drop (((hsub.cons₂ _).cons₂ _).cons _)⟩
    have hae : atE f t = 0 := by
      have h := hc19
      rw [Bool.or_eq_false_iff] at h
      simpa using h.2
    obtain ⟨h0, ht0, ht1⟩ := atE_zero hae
    have hcX := hcy h0 t ht0 ht1
    rw [← hX] at hcX
    have hsp := spotL_succ (es := E) hae hjb
    rw [← hs] at hsp
    refine WP.skip ?_
    refine WP.seq ?_
    refine WP.region ?_
    refine OPS.val rfl rfl rfl (Ev.asI rfl) ?_
    refine OPS.nil ?_
    refine WP.seq ?_
    refine WP.seq ?_
    refine WP.region ?_
    refine OPS.val rfl rfl rfl (Ev.asI rfl) ?_
    refine OPS.nil ?_
    refine WP.block ?_
    refine WP.loop [22, 23, 137, 138, 139, 140, 141, 142, 143, 144, 145, 146, 147, 148, 149, 150, 151, 152, 153, 154, 155, 156, 157, 158, 159, 160, 161, 162] (fun k e w' => ∃ (i : Nat), i + k = X.length ∧ e 22 = I (cntT t (X.take i)) ∧ e 23 = I i ∧ SH wh (((⟨g9, 30, arr3 gR 3⟩ : Blk) :: ⟨g4, 24, flC f A ca B cb⟩ :: (L0 ++ Ls)).map (·.g)) w' (⟨g20, 42, spC s⟩ :: ⟨g9, 30, arr3 gR 3⟩ :: ⟨g4, 24, flC f A ca B cb⟩ :: ((((L0 ++ Ls) ++ Lx) ++ Ly) ++ Lz))) (X.length) (⟨0, by omega, rfl, rfl, H⟩) ?_
    clear H
    rintro k2 u2 w ⟨i, hk2, h22, h23, H⟩
    refine WP.know (t := 22) h22 (WP.know (t := 23) h23 ?_)
    have hcn : cntT t (X.take i) ≤ 41 := Nat.le_trans cntT_le (by rw [List.length_take]; omega)
    refine WP.seq ?_
    refine WP.seq ?_
    refine WP.region ?_
    refine OPS.val rfl rfl rfl (Ev.mvI rfl) ?_
    refine OPS.val rfl rfl rfl (Ev.mvS rfl) ?_
    refine OPS.val rfl rfl rfl (Ev.len (el_run rfl) rfl) ?_
    refine OPS.val rfl rfl rfl (Ev.lss rfl rfl) ?_
    refine OPS.nil ?_
    refine WP.cond rfl (fun hc22 => ?_) (fun hc22 => ?_)
    · have hlt : i < X.length := by have h := of_decide_eq_true hc22; omega
      obtain ⟨bx, ox, hbo, hxc⟩ := OwnS.rowsG (enc := stC) (fun _ => rfl) hOx H (fun b hb => by simp [hb]) i hlt
      subst hbo
      have hsc := cntT_succ (t := t) hlt
      obtain ⟨y, hy⟩ : ∃ y, y = X[i] := ⟨_, rfl⟩
      rw [← hy] at hxc hsc
      have xf : w.cell? ⟨bx, ox + i * 6 + 4, none⟩ = some (I y.fr) := hxc.2.2.2.2.1
      have xt : w.cell? ⟨bx, ox + i * 6 + 5, none⟩ = some (I y.to) := hxc.2.2.2.2.2.1
      clear hxc
      refine WP.skip ?_
      refine WP.seq ?_
      refine WP.block ?_
      refine WP.seq ?_
      refine WP.region ?_
      refine OPS.val rfl rfl rfl (Ev.mvS rfl) ?_
      refine OPS.val rfl rfl rfl (Ev.mvI rfl) ?_
      refine OPS.val rfl rfl rfl (Ev.indexAddr (j := i) (el_run rfl) (size_run rfl) rfl rfl rfl hlt) ?_
      refine OPS.val rfl rfl rfl (Ev.fieldAddr (fld_run rfl) rfl) ?_
      refine OPS.val rfl rfl rfl (Ev.fieldAddr (fld_run rfl) rfl) ?_
      refine OPS.val rfl rfl rfl (Ev.load1 (agg_run rfl) rfl xf) ?_
      refine OPS.val rfl rfl rfl (Ev.mvI rfl) ?_
      refine OPS.val rfl rfl rfl (Ev.leq rfl rfl) ?_
      refine OPS.val rfl rfl rfl (Ev.mvB rfl) ?_
      refine OPS.gval rfl rfl rfl rfl rfl (fun hg => Ev.mvI (by first | rfl | exact gvE hg rfl)) ?_
      refine OPS.gval rfl rfl rfl rfl rfl (fun hg => Ev.mvS (by first | rfl | exact gvE hg rfl)) ?_
      refine OPS.gval rfl rfl rfl rfl rfl (fun hg => Ev.mvI (by first | rfl | exact gvE hg rfl)) ?_
      refine OPS.gval rfl rfl rfl rfl rfl (fun hg => Ev.indexAddr (j := i) (el_run rfl) (size_run rfl) (gvE hg rfl) (gvE hg rfl) rfl hlt) ?_
      refine OPS.gval rfl rfl rfl rfl rfl (fun hg => Ev.fieldAddr (fld_run rfl) (by first | rfl | exact gvE hg rfl)) ?_
      refine OPS.gval rfl rfl rfl rfl rfl (fun hg => Ev.fieldAddr (fld_run rfl) (by first | rfl | exact gvE hg rfl)) ?_
      refine OPS.gval rfl rfl rfl rfl rfl (fun hg => Ev.load1 (agg_run rfl) (gvE hg rfl) xt) ?_
      refine OPS.gval rfl rfl rfl rfl rfl (fun hg => Ev.lss (by first | rfl | exact gvE hg rfl) (by first | rfl | exact gvE hg rfl)) ?_
      refine OPS.val rfl rfl rfl ((by first | exact Ev.pickOr rfl rfl rfl | exact Ev.pickAnd rfl rfl rfl)) ?_
      refine OPS.nil ?_
      refine WP.cond rfl (fun hc24 => ?_) (fun hc24 => ?_)
      · have hyy : (decide (y.fr ≤ t) && decide (t < y.to)) = true := hc24
        have hcc : ((cntT t (X.take i) : Nat) : Int) + 1 = (cntT t (X.take (i + 1)) : Nat) := by rw [hsc, if_pos hyy]; omega
        refine WP.region ?_
        refine OPS.val rfl rfl rfl (Ev.mvI rfl) ?_
        refine OPS.val rfl rfl rfl (Ev.add rfl rfl (by unfold fits; omega)) ?_
        refine OPS.val rfl rfl rfl (Ev.asI rfl) ?_
        refine OPS.nil ?_
        refine WP.region ?_
        refine OPS.val rfl rfl rfl (Ev.mvI rfl) ?_
        refine OPS.val rfl rfl rfl (Ev.add rfl rfl (by unfold fits; omega)) ?_
        refine OPS.val rfl rfl rfl (Ev.asI rfl) ?_
        refine OPS.nil ?_
        exact ⟨(by repeat (first | exact Agree.refl _ _ | exact Agree.mix _ _ _ | refine Agree.upd rfl ?_ | refine Agree.mix2 rfl ?_)), k2 - 1, by omega, i + 1, by omega, congrArg I hcc, rfl, H⟩
      have hyy : (decide (y.fr ≤ t) && decide (t < y.to)) = false := hc24
      have hcc : ((cntT t (X.take i) : Nat) : Int) = (cntT t (X.take (i + 1)) : Nat) := by rw [hsc, hyy]; simp
      refine WP.skip ?_
      refine WP.region ?_
      refine OPS.val rfl rfl rfl (Ev.mvI rfl) ?_
      refine OPS.val rfl rfl rfl (Ev.add rfl rfl (by unfold fits; omega)) ?_
      refine OPS.val rfl rfl rfl (Ev.asI rfl) ?_
      refine OPS.nil ?_
      exact ⟨(by repeat (first | exact Agree.refl _ _ | exact Agree.mix _ _ _ | refine Agree.upd rfl ?_ | refine Agree.mix2 rfl ?_)), k2 - 1, by omega, i + 1, by omega, congrArg I hcc, rfl, H⟩
    have hi : i = X.length := by have h := of_decide_eq_false hc22; omega
    have hcnt : cntT t (X.take i) = 1 := by rw [hi, List.take_length]; exact hcX
    refine WP.exit ?_
    refine XB.hit ?_
    refine WP.seq ?_
    refine WP.seq ?_
    refine WP.region ?_
    refine OPS.val rfl rfl rfl (Ev.mvI rfl) ?_
    refine OPS.val rfl rfl rfl (Ev.neq rfl rfl) ?_
    refine OPS.nil ?_
    refine WP.cond rfl (fun hc26 => ?_) (fun hc26 => ?_)
    · refine WP.seq ?_
      simp [hcnt] at hc26
    refine WP.skip ?_
    have hsl2 := spotL_len (f := f) (es := E) (t := t) (j := j)
    replace H := H.drop (((hsub.cons₂ _).cons₂ _).cons₂ _)
    refine WP.region ?_
    refine OPS.val rfl rfl rfl (Ev.mvS rfl) ?_
    refine OPS.val rfl rfl rfl (Ev.loadO 0 H rfl (agg_run rfl) (size_run rfl) rfl rfl) ?_
    refine OPS.buildSlice rfl rfl rfl rfl (bsl_36_1_0 rfl) H ?_
    clear H; intro g167 w H
    refine OPS.append (m := 1) (news := spC s) (R := ⟨g167, 42, spC s⟩ :: ⟨g20, 42, spC s⟩ :: ⟨g9, 30, arr3 gR 3⟩ :: ⟨g4, 24, flC f A ca B cb⟩ :: L0) rfl rfl rfl rfl rfl (sl_run rfl) rfl rfl hOs rfl (src_own H 0 rfl) (by rfl) (by omega) (by unfold maxLen; omega) H (List.Perm.refl _) ?_
    clear H; intro A' c' Ls' w hO' H
    replace H : SH _ _ w (⟨g167, 42, spC s⟩ :: ⟨g20, 42, spC s⟩ :: ⟨g9, 30, arr3 gR 3⟩ :: ⟨g4, 24, flC f A ca B cb⟩ :: (L0 ++ Ls')) := H
    refine OPS.val rfl rfl rfl (Ev.asS rfl) ?_
    refine OPS.nil ?_
    refine WP.region ?_
    refine OPS.val rfl rfl rfl (Ev.mvI rfl) ?_
    refine OPS.val rfl rfl rfl (Ev.add rfl rfl (by unfold fits; omega)) ?_
    refine OPS.val rfl rfl rfl (Ev.asI rfl) ?_
    refine OPS.nil ?_
    first
      | exact ⟨(by repeat (first | exact Agree.refl _ _ | exact Agree.mix _ _ _ | refine Agree.upd rfl ?_ | refine Agree.mix2 rfl ?_)), k - 1, by omega, j + 1, A', c', Ls', by omega, rfl, by rw [hsp, List.length_append]; rfl, by rw [hsp, List.flatMap_append, List.length_append]; simpa using hO', hR1.sh H o1.1 o1.2, hR2.sh H o2.1 o2.2, (SH.cont HB H).drop ((List.sublist_cons_self _ _).trans (List.sublist_cons_self _ _))⟩
      | exact ⟨(by repeat (first | exact Agree.refl _ _ | exact Agree.mix _ _ _ | refine Agree.upd rfl ?_ | refine Agree.mix2 rfl ?_)), k - 1, by omega, j + 1, As, cs, Ls, by omega, rfl, by rw [hsp]; rfl, by rw [hsp]; exact hOs, hR1.sh H o1.1 o1.2, hR2.sh H o2.1 o2.2, (SH.cont HB H).drop (((hsub.cons₂ _).cons₂ _).cons _)⟩
  refine WP.exit ?_
  refine XB.hit ?_
  refine WP.seq ?_
  refine WP.region ?_
  have hsl2 := spotL_len (f := f) (es := E) (t := t) (j := j)
  have hj16 : j ≤ 16 := by omega
  refine OPS.val rfl rfl rfl (Ev.mvS rfl) ?_
  refine OPS.call (d := some 170) rfl rfl rfl (EvC.func (fun_run rfl)) (alone As (spotL f E t j) cs wh (OwnS.rowsG (enc := spC) (fun _ => rfl) hOs H (fun b hb => by simp [hb])) (by omega) spotL_conf) ?_
  rintro _ w ⟨rfl, hb⟩
  refine ⟨_, rfl, ?_⟩
  replace H := H.toBelow hb; clear hb
  refine OPS.val rfl rfl rfl (Ev.mvB rfl) ?_
  refine OPS.gcall0 (f := 5) (placeAwakeB _) (fun _ _ h => h) rfl rfl rfl rfl rfl (fun hg => (EvC.func (fun_run rfl))) ?_
  intro w hbc; replace H := H.toBelow hbc
  refine OPS.val rfl rfl rfl ((by first | exact Ev.pickOr rfl rfl rfl | exact Ev.pickAnd rfl rfl rfl)) ?_
  refine OPS.val rfl rfl rfl (Ev.asB rfl) ?_
  refine OPS.nil ?_
  refine WP.ret ⟨_, rfl, ?_⟩
  exact ⟨rfl, H.below⟩
end Go.Proofs.Ytchjbjplddhknaa

/-
  TopWhereabouts returns true at whatever arguments.
-/
set_option linter.all false
namespace Go.Proofs.Ytchjbjplddhknaa
open Go Go.W Go.RowKit

theorem topAll (f : Flt) (A : Option Addr) (ca : Nat) (B : Option Addr) (cb : Nat) (El : Option Addr) (l : List Evt) (ce : Nat) (parts t : Int) (w0 : World) (hA : IntsAt w0 A f.ds) (hB : IntsAt w0 B f.ts) (hz : RowsAt 9 evC w0 El l) (hfit : ∀ x ∈ l, fits x.p) :
    Calls Try.prog 3 #[.agg (flC f A ca B cb).toArray, .slice El l.length ce, .int .u64 parts, I t] w0 fun e w' => e = .returned (.bool true) ∧ Below w0.heap.size w0 w' := by
  cases hb : (!((decide ((l.length : Int) ≤ 40) && decide ((f.ds.length : Int) ≤ 40)) && decide ((f.ts.length : Int) ≤ 20)) || decide (16 < f.bk)) with
  | true => exact topMany f A ca B cb El l.length ce parts t w0 hb
  | false =>
    have h := hb
    rw [Bool.or_eq_false_iff, Bool.not_eq_false', Bool.and_eq_true, Bool.and_eq_true, decide_eq_true_eq, decide_eq_true_eq, decide_eq_true_eq] at h
    by_cases hd : 1 ≤ f.dv ∧ f.dv ≤ 256
    · exact topFew f A ca B cb El l ce parts t w0 ⟨hA, hB, by omega, by omega⟩ hz hfit (by omega) hb hd
    · exact topBad f A ca B cb El l.length ce parts t w0 hb (by omega)
end Go.Proofs.Ytchjbjplddhknaa

/-
  What the arguments of this seat's law read as.
-/
set_option linter.all false
namespace Go.Proofs.Ytchjbjplddhknaa
open Go Go.W Go.RowKit
open Go.ChangeShapes Go.WideShapes Go.ChangeAt

theorem own : ownKnob Try.prog.godebug = none := by kernel_rfl
theorem laidOut : laidOutB Try.prog = true := by kernel_rfl
section
variable {H : Type} {enc : TypeId × Value → H} {w : World} {base : Nat} {spare : Nat → Bool} {held : Bool}
theorem rdInt : Rd enc Try.prog w base spare held 3 (fun n : Int => [I n]) (fun n => (Lit.int .i64 n).wf = true) := Rd.int Try.underlying3
theorem rdU64 : Rd enc Try.prog w base spare held 26 (fun n : Int => [.int .u64 n]) (fun _ => True) := (Rd.int (k := .u64) Try.underlying26).mono fun _ _ => trivial
theorem rdInts : Rd enc Try.prog w base spare held 22 (slCells (α := Int)) (SlG w 1 (fun n => [I n]) (fun n => (Lit.int .i64 n).wf = true)) := Rd.slice Try.underlying22 (by kernel_rfl) (by decide) rdInt
theorem rdEv : Rd enc Try.prog w base spare held 56 evC (fun x => fits x.p) :=
  (Rd.struct (tot := 9) Try.underlying56 (by kernel_rfl) (RdF.cons (sz := 1) rdInt rfl rfl (by kernel_rfl) (RdF.cons (sz := 1) rdInt rfl rfl (by kernel_rfl) (RdF.cons (sz := 1) rdInt rfl rfl (by kernel_rfl) (RdF.cons (sz := 1) rdInt rfl rfl (by kernel_rfl) (RdF.cons (sz := 1) rdInt rfl rfl (by kernel_rfl) (RdF.cons (sz := 1) rdInt rfl rfl (by kernel_rfl) (RdF.cons (sz := 1) rdInt rfl rfl (by kernel_rfl) (RdF.cons (sz := 1) rdInt rfl rfl (by kernel_rfl) (RdF.cons (sz := 1) rdInt rfl rfl (by kernel_rfl) RdF.nil)))))))))).conv
    (fun p => ⟨p.1, p.2.1, p.2.2.1, p.2.2.2.1, p.2.2.2.2.1, p.2.2.2.2.2.1, p.2.2.2.2.2.2.1, p.2.2.2.2.2.2.2.1, p.2.2.2.2.2.2.2.2.1⟩) (fun _ => rfl) (fun _ h => wf_i64 h.2.2.2.2.2.2.1)
theorem rdEvs : Rd enc Try.prog w base spare held 25 (slCells (α := Evt)) (SlG w 9 evC (fun x => fits x.p)) := Rd.slice Try.underlying25 (by kernel_rfl) (by decide) rdEv
structure FltA where
  bk : Int
  rd : Int
  dv : Int
  D : SlA Int
  T : SlA Int
def FltA.f (g : FltA) : Flt := ⟨g.bk, g.rd, g.dv, g.D.l, g.T.l⟩
def fltC (g : FltA) : List Value := flC g.f g.D.A g.D.cap g.T.A g.T.cap
theorem rdFleet : Rd enc Try.prog w base spare held 24 fltC (fun g => IntsAt w g.D.A g.D.l ∧ IntsAt w g.T.A g.T.l) :=
  (Rd.struct (tot := 5) Try.underlying24 (by kernel_rfl) (RdF.cons (sz := 1) rdInt rfl rfl (by kernel_rfl) (RdF.cons (sz := 1) rdInt rfl rfl (by kernel_rfl) (RdF.cons (sz := 1) rdInt rfl rfl (by kernel_rfl) (RdF.cons (sz := 1) rdInts rfl rfl (by kernel_rfl) (RdF.cons (sz := 1) rdInts rfl rfl (by kernel_rfl) RdF.nil)))))).conv
    (fun p => ⟨p.1, p.2.1, p.2.2.1, p.2.2.2.1, p.2.2.2.2.1⟩) (fun _ => rfl) (fun _ h => ⟨h.2.2.2.1.rows.ones, h.2.2.2.2.1.rows.ones⟩)
end
end Go.Proofs.Ytchjbjplddhknaa
