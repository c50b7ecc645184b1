/-
  The law WearGrows (the text is printed by wip/tools/mkw29.py).
-/
import Derived.Test.YtdlfadbdchjinaaW28
import Derived.Test.YtdlfadbdchjinaaPlus
set_option linter.all false
namespace Go.Proofs.Ytdlfadbdchjinaa
open Go Go.W Go.RowKit

set_option maxHeartbeats 1000000 in
theorem lawGrowsNo (HA RA A : Option Addr) (hs rs : List Int) (R : List Ride) (more : Ride) (hc rc cap : Nat) (bike kind f t : Int) (w0 : World) (hW : WearAt w0 HA RA hs rs) (hR : RidesAt w0 A R) (hno : (!fewU hs rs R || decide ((20 : Int) < (R.length : Int))) = true) :
    Calls Try.prog 8 #[.agg (useL HA RA A hs.length hc rs.length rc R.length cap bike kind).toArray, .agg (rideCells more).toArray, .agg #[I f, I t]] w0 fun e w' => e = .returned (.bool true) ∧ Below w0.heap.size w0 w' := by
  have H := SH.refl w0
  have hRl := hR.len
  refine Calls.ofWP Try.func8 rfl Try.results8 Try.ntmps8 rfl ?_
  refine WP.seq ?_
  refine WP.region ?_
  refine OPS.box rfl rfl rfl rfl (cA rfl) H ?_
  clear H; intro g3 w H
  refine OPS.box rfl rfl rfl rfl (cA rfl) H ?_
  clear H; intro g4 w H
  refine OPS.box rfl rfl rfl rfl (cA rfl) H ?_
  clear H; intro g5 w H
  refine OPS.val rfl rfl rfl (Ev.asB rfl) ?_
  refine OPS.nil ?_
  refine WP.seq ?_
  refine WP.seq ?_
  refine WP.region ?_
  refine OPS.val rfl rfl rfl ((by first | exact Ev.loadO 0 H rfl (agg_run rfl) (size_run rfl) (by first | assumption | rfl) rfl | exact Ev.loadO 1 H rfl (agg_run rfl) (size_run rfl) (by first | assumption | rfl) rfl | exact Ev.loadO 2 H rfl (agg_run rfl) (size_run rfl) (by first | assumption | rfl) rfl | exact Ev.loadO 3 H rfl (agg_run rfl) (size_run rfl) (by first | assumption | rfl) rfl | exact Ev.loadO 4 H rfl (agg_run rfl) (size_run rfl) (by first | assumption | rfl) rfl | exact Ev.loadO 5 H rfl (agg_run rfl) (size_run rfl) (by first | assumption | rfl) rfl | exact Ev.loadO 6 H rfl (agg_run rfl) (size_run rfl) (by first | assumption | rfl) rfl | (change Ev _ _ _ _ (Op.load 27 (Operand.tmp 3)) _; fail))) ?_
  refine OPS.call (d := some 21) rfl rfl rfl (EvC.func (fun_run rfl)) (lawFew HA RA A hs rs R hc rc cap bike kind w (hW.sh H) (hR.sh H)) ?_
  rintro _ w ⟨rfl, hb⟩
  refine ⟨_, rfl, ?_⟩
  replace H := H.toBelow hb; clear hb
  refine OPS.val rfl rfl rfl (Ev.not rfl) ?_
  refine OPS.val rfl rfl rfl (Ev.mvB rfl) ?_
  refine OPS.gval rfl rfl rfl rfl rfl (fun hg => Ev.fieldAddr (fld_run rfl) (by first | rfl | exact gvE hg rfl)) ?_
  refine OPS.gval rfl rfl rfl rfl rfl (fun hg => Ev.load1 (agg_run rfl) (by first | rfl | exact gvE hg rfl) (by first | exact H.ldL 0 rfl _ rfl | exact H.ldL 1 rfl _ rfl | exact H.ldL 2 rfl _ rfl | exact H.ldL 3 rfl _ rfl | exact H.ldL 4 rfl _ rfl | exact H.ldL 5 rfl _ rfl | exact H.ldL 6 rfl _ rfl | exact H.ldL 7 rfl _ rfl | exact H.ld0 (by assumption) | assumption | exact H.ldS (by assumption) (by assumption))) ?_
  refine OPS.gval rfl rfl rfl rfl rfl (fun hg => Ev.len (el_run rfl) (by first | rfl | exact gvE hg rfl)) ?_
  refine OPS.gval rfl rfl rfl rfl rfl (fun hg => Ev.gtr (by first | rfl | exact gvE hg rfl) (by first | rfl | exact gvE hg rfl)) ?_
  refine OPS.val rfl rfl rfl ((by first | exact Ev.pickOr rfl rfl rfl | exact Ev.pickAnd rfl rfl rfl)) ?_
  refine OPS.val rfl rfl rfl (Ev.mvB rfl) ?_
  rw [hno]
  refine OPS.gno (b := true) rfl rfl rfl rfl rfl rfl ?_
  refine OPS.gno (b := true) rfl rfl rfl rfl rfl rfl ?_
  refine OPS.gno (b := true) rfl rfl rfl rfl rfl rfl ?_
  refine OPS.gno (b := true) rfl rfl rfl rfl rfl rfl ?_
  refine OPS.val rfl rfl rfl (Ev.pickT (v := .bool true) rfl rfl rfl) ?_
  refine OPS.nil ?_
  refine WP.cond rfl (fun hc1 => ?_) (fun hc1 => ?_)
  · refine WP.seq ?_
    refine WP.region ?_
    refine OPS.call (d := some 35) rfl rfl rfl (EvC.func (fun_run rfl)) (lawAwake w) ?_
    rintro _ w ⟨rfl, hb⟩
    refine ⟨_, rfl, ?_⟩
    replace H := H.toBelow hb; clear hb
    refine OPS.val rfl rfl rfl (Ev.asB rfl) ?_
    refine OPS.nil ?_
    refine WP.ret ⟨_, rfl, ?_⟩
    exact ⟨rfl, H.below⟩
  refine WP.skip ?_
  refine WP.seq ?_
  cases hc1
theorem few1 {more : Ride} (h : fewR [more] 1 = true) : more.L.l.length ≤ 40 := by
  unfold fewR at h
  simp at h
  exact h.1
set_option maxRecDepth 20000 in
set_option maxHeartbeats 4000000 in
theorem lawGrows (HA RA A : Option Addr) (hs rs : List Int) (R : List Ride) (more : Ride) (hc rc cap : Nat) (bike kind f t : Int) (w0 : World) (hW : WearAt w0 HA RA hs rs) (hR : RidesAt w0 A R) (hM : RideAt w0 more) (hno : (!fewU hs rs R || decide ((20 : Int) < (R.length : Int))) = false) :
    Calls Try.prog 8 #[.agg (useL HA RA A hs.length hc rs.length rc R.length cap bike kind).toArray, .agg (rideCells more).toArray, .agg #[I f, I t]] w0 fun e w' => e = .returned (.bool true) ∧ Below w0.heap.size w0 w' := by
  have H := SH.refl w0
  have hRl := hR.len
  have hfw : fewU hs rs R = true := by grind
  have hl20 : R.length ≤ 20 := by grind
  have hsm := few_small hfw
  have hsm2 := fewU_20 hfw hl20
  have hrr := hR.rows
  have hm0 : ∀ r ∈ [more], r.L.l.length ≤ maxLen ∧ r.P.l.length ≤ maxLen := by intro r hr; rw [List.mem_singleton.1 hr]; exact ⟨hM.ll, hM.pl⟩
  refine Calls.ofWP Try.func8 rfl Try.results8 Try.ntmps8 rfl ?_
  refine WP.seq ?_
  refine WP.region ?_
  refine OPS.box rfl rfl rfl rfl (cA rfl) H ?_
  clear H; intro g3 w H
  refine OPS.box rfl rfl rfl rfl (cA rfl) H ?_
  clear H; intro g4 w H
  refine OPS.box rfl rfl rfl rfl (cA rfl) H ?_
  clear H; intro g5 w H
  refine OPS.val rfl rfl rfl (Ev.asB rfl) ?_
  refine OPS.nil ?_
  unfold useL at H
  refine WP.seq ?_
  refine WP.seq ?_
  refine WP.region ?_
  refine OPS.val rfl rfl rfl ((by first | exact Ev.loadO 0 H rfl (agg_run rfl) (size_run rfl) (by first | assumption | rfl) rfl | exact Ev.loadO 1 H rfl (agg_run rfl) (size_run rfl) (by first | assumption | rfl) rfl | exact Ev.loadO 2 H rfl (agg_run rfl) (size_run rfl) (by first | assumption | rfl) rfl | exact Ev.loadO 3 H rfl (agg_run rfl) (size_run rfl) (by first | assumption | rfl) rfl | exact Ev.loadO 4 H rfl (agg_run rfl) (size_run rfl) (by first | assumption | rfl) rfl | exact Ev.loadO 5 H rfl (agg_run rfl) (size_run rfl) (by first | assumption | rfl) rfl | exact Ev.loadO 6 H rfl (agg_run rfl) (size_run rfl) (by first | assumption | rfl) rfl | (change Ev _ _ _ _ (Op.load 27 (Operand.tmp 3)) _; fail))) ?_
  refine OPS.call (d := some 21) rfl rfl rfl (EvC.func (fun_run rfl)) (lawFew HA RA A hs rs R hc rc cap bike kind w (hW.sh H) (hR.sh H)) ?_
  rintro _ w ⟨rfl, hb⟩
  refine ⟨_, rfl, ?_⟩
  replace H := H.toBelow hb; clear hb
  refine OPS.val rfl rfl rfl (Ev.not rfl) ?_
  refine OPS.val rfl rfl rfl (Ev.mvB rfl) ?_
  refine OPS.gval rfl rfl rfl rfl rfl (fun hg => Ev.fieldAddr (fld_run rfl) (by first | rfl | exact gvE hg rfl)) ?_
  refine OPS.gval rfl rfl rfl rfl rfl (fun hg => Ev.load1 (agg_run rfl) (by first | rfl | exact gvE hg rfl) (by first | exact H.ldL 0 rfl _ rfl | exact H.ldL 1 rfl _ rfl | exact H.ldL 2 rfl _ rfl | exact H.ldL 3 rfl _ rfl | exact H.ldL 4 rfl _ rfl | exact H.ldL 5 rfl _ rfl | exact H.ldL 6 rfl _ rfl | exact H.ldL 7 rfl _ rfl | exact H.ld0 (by assumption) | assumption | exact H.ldS (by assumption) (by assumption))) ?_
  refine OPS.gval rfl rfl rfl rfl rfl (fun hg => Ev.len (el_run rfl) (by first | rfl | exact gvE hg rfl)) ?_
  refine OPS.gval rfl rfl rfl rfl rfl (fun hg => Ev.gtr (by first | rfl | exact gvE hg rfl) (by first | rfl | exact gvE hg rfl)) ?_
  refine OPS.val rfl rfl rfl ((by first | exact Ev.pickOr rfl rfl rfl | exact Ev.pickAnd rfl rfl rfl)) ?_
  refine OPS.val rfl rfl rfl (Ev.mvB rfl) ?_
  rw [hno]
  refine OPS.gyes rfl rfl rfl rfl ?_
  refine OPS.val rfl rfl rfl (Ev.loadO 1 H rfl (agg_run rfl) (size_run rfl) rfl rfl) ?_
  refine OPS.gyes rfl rfl rfl rfl ?_
  refine OPS.buildSlice rfl rfl rfl rfl (bsl_25_1_0 rfl) H ?_
  clear H; intro g31 w H
  refine OPS.gyes rfl rfl rfl rfl ?_
  refine OPS.call (d := some 32) rfl rfl rfl (EvC.func (fun_run rfl)) (r22Few (some ⟨g31, 0, none⟩) [more] 1 1 w (rowsOwn' (enc := rideCells) (sz := 13) (l := [more]) (fun _ => rfl) H 0 rfl) (by unfold maxLen; simp) hm0) ?_
  rintro _ w ⟨rfl, Hc⟩; refine ⟨_, rfl, ?_⟩
  replace H := H.toBelow Hc
  clear Hc
  refine OPS.gyes rfl rfl rfl rfl ?_
  refine OPS.val rfl rfl rfl (Ev.not rfl) ?_
  refine OPS.val rfl rfl rfl (Ev.pickF (v := .bool (!fewR [more] 1)) rfl rfl rfl) ?_
  refine OPS.nil ?_
  replace H := H.drop (List.sublist_cons_self _ _)
  refine WP.cond rfl (fun hc1 => ?_) (fun hc1 => ?_)
  · refine WP.seq ?_
    refine WP.region ?_
    refine OPS.call (d := some 35) rfl rfl rfl (EvC.func (fun_run rfl)) (lawAwake w) ?_
    rintro _ w ⟨rfl, hb⟩
    refine ⟨_, rfl, ?_⟩
    replace H := H.toBelow hb; clear hb
    refine OPS.val rfl rfl rfl (Ev.asB rfl) ?_
    refine OPS.nil ?_
    refine WP.ret ⟨_, rfl, ?_⟩
    exact ⟨rfl, H.below⟩
  have hm1 : more.L.l.length ≤ 40 := few1 (by simpa using hc1)
  refine WP.skip ?_
  refine WP.seq ?_
  refine WP.region ?_
  refine OPS.val rfl rfl rfl ((by first | exact Ev.loadO 0 H rfl (agg_run rfl) (size_run rfl) (by first | assumption | rfl) rfl | exact Ev.loadO 1 H rfl (agg_run rfl) (size_run rfl) (by first | assumption | rfl) rfl | exact Ev.loadO 2 H rfl (agg_run rfl) (size_run rfl) (by first | assumption | rfl) rfl | exact Ev.loadO 3 H rfl (agg_run rfl) (size_run rfl) (by first | assumption | rfl) rfl | exact Ev.loadO 4 H rfl (agg_run rfl) (size_run rfl) (by first | assumption | rfl) rfl | exact Ev.loadO 5 H rfl (agg_run rfl) (size_run rfl) (by first | assumption | rfl) rfl | exact Ev.loadO 6 H rfl (agg_run rfl) (size_run rfl) (by first | assumption | rfl) rfl | (change Ev _ _ _ _ (Op.load 27 (Operand.tmp 3)) _; fail))) ?_
  refine OPS.val rfl rfl rfl (Ev.indexAddrA (arr_run rfl) (size_run rfl) rfl rfl rfl (by decide)) ?_
  refine OPS.val rfl rfl rfl (Ev.load1 (agg_run rfl) rfl (by first | exact H.ldL 0 rfl _ rfl | exact H.ldL 1 rfl _ rfl | exact H.ldL 2 rfl _ rfl | exact H.ldL 3 rfl _ rfl | exact H.ldL 4 rfl _ rfl | exact H.ldL 5 rfl _ rfl | exact H.ldL 6 rfl _ rfl | exact H.ldL 7 rfl _ rfl | exact H.ld0 (by assumption) | assumption | exact H.ldS (by assumption) (by assumption))) ?_
  refine OPS.val rfl rfl rfl (Ev.indexAddrA (arr_run rfl) (size_run rfl) rfl rfl rfl (by decide)) ?_
  refine OPS.val rfl rfl rfl (Ev.load1 (agg_run rfl) rfl (by first | exact H.ldL 0 rfl _ rfl | exact H.ldL 1 rfl _ rfl | exact H.ldL 2 rfl _ rfl | exact H.ldL 3 rfl _ rfl | exact H.ldL 4 rfl _ rfl | exact H.ldL 5 rfl _ rfl | exact H.ldL 6 rfl _ rfl | exact H.ldL 7 rfl _ rfl | exact H.ld0 (by assumption) | assumption | exact H.ldS (by assumption) (by assumption))) ?_
  refine OPS.call (d := some 42) rfl rfl rfl (EvC.func (fun_run rfl)) (lawOf HA RA A hs rs R hc rc cap bike kind f t w (hW.sh H) (hR.sh H)) ?_
  rintro _ w ⟨rfl, hb⟩
  refine ⟨_, rfl, ?_⟩
  replace H := H.toBelow hb; clear hb
  refine OPS.val rfl rfl rfl (Ev.mvT rfl) ?_
  refine OPS.val rfl rfl rfl (Ev.extract rfl rfl) ?_
  refine OPS.val rfl rfl rfl (Ev.extract rfl rfl) ?_
  refine OPS.val rfl rfl rfl (Ev.asI rfl) ?_
  refine OPS.val rfl rfl rfl (Ev.asI rfl) ?_
  refine OPS.nil ?_
  refine WP.seq ?_
  refine WP.seq ?_
  refine WP.region ?_
  refine OPS.val rfl rfl rfl (Ev.mvI rfl) ?_
  refine OPS.val rfl rfl rfl (Ev.neq rfl rfl) ?_
  refine OPS.nil ?_
  refine WP.cond rfl (fun hc4 => ?_) (fun hc4 => ?_)
  · have he : ofErr hs rs R bike kind f t ≠ 0 := by simpa using hc4
    have h0 := of0 he
    refine WP.seq ?_
    refine WP.region ?_
    refine OPS.val rfl rfl rfl (Ev.mvI rfl) ?_
    refine OPS.val rfl rfl rfl (Ev.eql rfl rfl) ?_
    refine OPS.val rfl rfl rfl (Ev.mvB rfl) ?_
    refine OPS.gcall0 (f := 11) (lawAwake w) (fun _ _ h => h) rfl rfl rfl rfl rfl (fun hg => (EvC.func (fun_run rfl))) ?_
    intro w hbc; replace H := H.toBelow hbc
    refine OPS.val rfl rfl rfl ((by first | exact Ev.pickOr rfl rfl rfl | exact Ev.pickAnd rfl rfl rfl)) ?_
    refine OPS.val rfl rfl rfl (Ev.asB rfl) ?_
    refine OPS.nil ?_
    refine WP.ret ⟨_, rfl, ?_⟩
    exact ⟨ret_true rfl (by rw [h0]; rfl), H.below⟩
  have he : ofErr hs rs R bike kind f t = 0 := by simpa using hc4
  obtain ⟨qw1, qw2⟩ := grow_wide he
  obtain ⟨qb1, qb2⟩ := grow_back he
  refine WP.skip ?_
  refine WP.seq ?_
  refine WP.region ?_
  refine OPS.val rfl rfl rfl ((by first | exact Ev.loadO 0 H rfl (agg_run rfl) (size_run rfl) (by first | assumption | rfl) rfl | exact Ev.loadO 1 H rfl (agg_run rfl) (size_run rfl) (by first | assumption | rfl) rfl | exact Ev.loadO 2 H rfl (agg_run rfl) (size_run rfl) (by first | assumption | rfl) rfl | exact Ev.loadO 3 H rfl (agg_run rfl) (size_run rfl) (by first | assumption | rfl) rfl | exact Ev.loadO 4 H rfl (agg_run rfl) (size_run rfl) (by first | assumption | rfl) rfl | exact Ev.loadO 5 H rfl (agg_run rfl) (size_run rfl) (by first | assumption | rfl) rfl | exact Ev.loadO 6 H rfl (agg_run rfl) (size_run rfl) (by first | assumption | rfl) rfl | (change Ev _ _ _ _ (Op.load 27 (Operand.tmp 3)) _; fail))) ?_
  refine OPS.call (d := some 54) rfl rfl rfl (EvC.func (fun_run rfl)) (lawOf HA RA A hs rs R hc rc cap bike kind 0 4294944000 w (hW.sh H) (hR.sh H)) ?_
  rintro _ w ⟨rfl, hb⟩
  refine ⟨_, rfl, ?_⟩
  replace H := H.toBelow hb; clear hb
  rw [qw1]
  refine OPS.val rfl rfl rfl (Ev.mvT rfl) ?_
  refine OPS.val rfl rfl rfl (Ev.extract rfl rfl) ?_
  refine OPS.val rfl rfl rfl (Ev.extract rfl rfl) ?_
  refine OPS.val rfl rfl rfl (Ev.asI rfl) ?_
  refine OPS.val rfl rfl rfl (Ev.asI rfl) ?_
  refine OPS.nil ?_
  refine WP.seq ?_
  refine WP.rheldC [11, 12, 57, 58] (fun u w' => ∃ (g11 g12 : Nat), u 11 = .pointer (some ⟨g11, 0, none⟩) ∧ u 12 = .pointer (some ⟨g12, 0, none⟩) ∧ SH w0 [] w' [⟨g11, 27, [.slice HA hs.length hc, .slice RA rs.length rc, .slice A R.length cap, I bike, I kind]⟩, ⟨g12, 27, [.slice HA hs.length hc, .slice RA rs.length rc, .slice A R.length cap, I bike, I kind]⟩, ⟨g5, 51, [I f, I t]⟩, ⟨g4, 50, rideCells more⟩, ⟨g3, 27, [.slice HA hs.length hc, .slice RA rs.length rc, .slice A R.length cap, I bike, I kind]⟩]) mixed H ?_ ?_
  · clear H; intro w hbw7 H
    refine OPH.take 0 rfl rfl rfl rfl (by kernel_rfl) (by kernel_rfl) (by kernel_rfl) rfl H (fun w H => (by first | exact Ev.loadO 0 H rfl (agg_run rfl) (size_run rfl) (by first | assumption | rfl) rfl | exact Ev.loadO 1 H rfl (agg_run rfl) (size_run rfl) (by first | assumption | rfl) rfl | exact Ev.loadO 2 H rfl (agg_run rfl) (size_run rfl) (by first | assumption | rfl) rfl | exact Ev.loadO 3 H rfl (agg_run rfl) (size_run rfl) (by first | assumption | rfl) rfl | exact Ev.loadO 4 H rfl (agg_run rfl) (size_run rfl) (by first | assumption | rfl) rfl | exact Ev.loadO 5 H rfl (agg_run rfl) (size_run rfl) (by first | assumption | rfl) rfl | exact Ev.loadO 6 H rfl (agg_run rfl) (size_run rfl) (by first | assumption | rfl) rfl | (change Ev _ _ _ _ (Op.load 27 (Operand.tmp 3)) _; fail))) ?_
    refine OPH.take 1 rfl rfl rfl rfl (by kernel_rfl) (by kernel_rfl) (by kernel_rfl) rfl H (fun w H => (by first | exact Ev.loadO 0 H rfl (agg_run rfl) (size_run rfl) (by first | assumption | rfl) rfl | exact Ev.loadO 1 H rfl (agg_run rfl) (size_run rfl) (by first | assumption | rfl) rfl | exact Ev.loadO 2 H rfl (agg_run rfl) (size_run rfl) (by first | assumption | rfl) rfl | exact Ev.loadO 3 H rfl (agg_run rfl) (size_run rfl) (by first | assumption | rfl) rfl | exact Ev.loadO 4 H rfl (agg_run rfl) (size_run rfl) (by first | assumption | rfl) rfl | exact Ev.loadO 5 H rfl (agg_run rfl) (size_run rfl) (by first | assumption | rfl) rfl | exact Ev.loadO 6 H rfl (agg_run rfl) (size_run rfl) (by first | assumption | rfl) rfl | (change Ev _ _ _ _ (Op.load 27 (Operand.tmp 3)) _; fail))) ?_
    refine OPH.named (f' := 4) (ls' := #[true, true, false, false, false, false]) rfl (by kernel_rfl) ?_
    intro Q hQ
    generalize he0 : (upd _ _ _ : Env) = e0
    have f57 : e0 57 = .agg [.slice HA hs.length hc, .slice RA rs.length rc, .slice A R.length cap, I bike, I kind].toArray := by rw [← he0]; rfl
    have f58 : e0 58 = .agg [.slice HA hs.length hc, .slice RA rs.length rc, .slice A R.length cap, I bike, I kind].toArray := by rw [← he0]; rfl
    have s1111 : ∀ (g11 g12 : Nat) (w : World), SH w0 [] w ([⟨g11, 27, [.slice HA hs.length hc, .slice RA rs.length rc, .slice A R.length cap, I bike, I kind]⟩, ⟨g12, 27, [.slice HA hs.length hc, .slice RA rs.length rc, .slice A R.length cap, I bike, I kind]⟩] ++ [⟨g5, 51, [I f, I t]⟩, ⟨g4, 50, rideCells more⟩, ⟨g3, 27, [.slice HA hs.length hc, .slice RA rs.length rc, .slice A R.length cap, I bike, I kind]⟩]) → Q 0 #[true, true, true, true, true, true] (upd (upd e0 11 (.pointer (some ⟨g11, 0, none⟩))) 12 (.pointer (some ⟨g12, 0, none⟩))) w := by
      intro g11 g12 w H; rw [hQ]
      refine OPH.done (by kernel_rfl) ?_
      exact ⟨(by (repeat refine Agree.upd rfl ?_); rw [← he0]; exact (by repeat (first | exact Agree.refl _ _ | exact Agree.mix _ _ _ | refine Agree.upd rfl ?_ | refine Agree.mix2 rfl ?_))), g11, g12, rfl, rfl, H⟩
    have s1110 : ∀ (g11 g12 : Nat) (w : World), SH w0 [] w ([⟨g11, 27, [.slice HA hs.length hc, .slice RA rs.length rc, .slice A R.length cap, I bike, I kind]⟩, ⟨g12, 27, [.slice none 0 0, .slice none 0 0, .slice none 0 0, I 0, I 0]⟩] ++ [⟨g5, 51, [I f, I t]⟩, ⟨g4, 50, rideCells more⟩, ⟨g3, 27, [.slice HA hs.length hc, .slice RA rs.length rc, .slice A R.length cap, I bike, I kind]⟩]) → Q 1 #[true, true, true, true, true, false] (upd (upd e0 11 (.pointer (some ⟨g11, 0, none⟩))) 12 (.pointer (some ⟨g12, 0, none⟩))) w := by
      intro g11 g12 w H; rw [hQ]
      refine OPH.all [5] (by kernel_rfl) (by simp) rfl ?_
      intro i hi; simp only [List.mem_cons, List.not_mem_nil, or_false] at hi
      rcases hi with rfl
      · refine ⟨_, rfl, ?_⟩
        first
          | refine OPS.store (vs := [.slice HA hs.length hc, .slice RA rs.length rc, .slice A R.length cap, I bike, I kind]) 0 _ rfl rfl rfl (size_run rfl) rfl (cA f58) rfl rfl H rfl (by simp) ?_
          | refine OPS.store (vs := [.slice HA hs.length hc, .slice RA rs.length rc, .slice A R.length cap, I bike, I kind]) 1 _ rfl rfl rfl (size_run rfl) rfl (cA f58) rfl rfl H rfl (by simp) ?_
        clear H; intro w H; simp only [List.set_cons_zero, List.set_cons_succ, List.cons_append, List.nil_append, putL] at H
        refine OPS.nil ?_
        refine ⟨H.reidx [2, 3, 4] (by decide) rfl, ?_⟩
        rw [← hQ]
        exact qcast (by kernel_rfl) (s1111 g11 g12 w (H))
    clear s1111
    have s1100 : ∀ (g11 g12 : Nat) (w : World), SH w0 [] w ([⟨g11, 27, [.slice none 0 0, .slice none 0 0, .slice none 0 0, I 0, I 0]⟩, ⟨g12, 27, [.slice none 0 0, .slice none 0 0, .slice none 0 0, I 0, I 0]⟩] ++ [⟨g5, 51, [I f, I t]⟩, ⟨g4, 50, rideCells more⟩, ⟨g3, 27, [.slice HA hs.length hc, .slice RA rs.length rc, .slice A R.length cap, I bike, I kind]⟩]) → Q 2 #[true, true, true, true, false, false] (upd (upd e0 11 (.pointer (some ⟨g11, 0, none⟩))) 12 (.pointer (some ⟨g12, 0, none⟩))) w := by
      intro g11 g12 w H; rw [hQ]
      refine OPH.all [4] (by kernel_rfl) (by simp) rfl ?_
      intro i hi; simp only [List.mem_cons, List.not_mem_nil, or_false] at hi
      rcases hi with rfl
      · refine ⟨_, rfl, ?_⟩
        first
          | refine OPS.store (vs := [.slice HA hs.length hc, .slice RA rs.length rc, .slice A R.length cap, I bike, I kind]) 0 _ rfl rfl rfl (size_run rfl) rfl (cA f57) rfl rfl H rfl (by simp) ?_
          | refine OPS.store (vs := [.slice HA hs.length hc, .slice RA rs.length rc, .slice A R.length cap, I bike, I kind]) 1 _ rfl rfl rfl (size_run rfl) rfl (cA f57) rfl rfl H rfl (by simp) ?_
        clear H; intro w H; simp only [List.set_cons_zero, List.set_cons_succ, List.cons_append, List.nil_append, putL] at H
        refine OPS.nil ?_
        refine ⟨H.reidx [2, 3, 4] (by decide) rfl, ?_⟩
        rw [← hQ]
        exact qcast (by kernel_rfl) (s1110 g11 g12 w (H))
    clear s1110
    have s1000 : ∀ (g11 : Nat) (w : World), SH w0 [] w ([⟨g11, 27, [.slice none 0 0, .slice none 0 0, .slice none 0 0, I 0, I 0]⟩] ++ [⟨g5, 51, [I f, I t]⟩, ⟨g4, 50, rideCells more⟩, ⟨g3, 27, [.slice HA hs.length hc, .slice RA rs.length rc, .slice A R.length cap, I bike, I kind]⟩]) → Q 3 #[true, true, true, false, false, false] (upd e0 11 (.pointer (some ⟨g11, 0, none⟩))) w := by
      intro g11 w H; rw [hQ]
      refine OPH.all [3] (by kernel_rfl) (by simp) rfl ?_
      intro i hi; simp only [List.mem_cons, List.not_mem_nil, or_false] at hi
      rcases hi with rfl
      · refine ⟨_, rfl, ?_⟩
        refine OPS.alloc rfl rfl rfl rfl (zero_run rfl) rfl H ?_
        clear H; intro g12 w H
        refine OPS.nil ?_
        refine ⟨H.reidx [2, 3, 4] (by decide) rfl, ?_⟩
        rw [← hQ]
        exact qcast (by kernel_rfl) (s1100 g11 g12 w (H.reidx [1, 0, 2, 3, 4] (by decide) rfl))
    have s0100 : ∀ (g12 : Nat) (w : World), SH w0 [] w ([⟨g12, 27, [.slice none 0 0, .slice none 0 0, .slice none 0 0, I 0, I 0]⟩] ++ [⟨g5, 51, [I f, I t]⟩, ⟨g4, 50, rideCells more⟩, ⟨g3, 27, [.slice HA hs.length hc, .slice RA rs.length rc, .slice A R.length cap, I bike, I kind]⟩]) → Q 3 #[true, true, false, true, false, false] (upd e0 12 (.pointer (some ⟨g12, 0, none⟩))) w := by
      intro g12 w H; rw [hQ]
      refine OPH.all [2] (by kernel_rfl) (by simp) rfl ?_
      intro i hi; simp only [List.mem_cons, List.not_mem_nil, or_false] at hi
      rcases hi with rfl
      · refine ⟨_, rfl, ?_⟩
        refine OPS.alloc rfl rfl rfl rfl (zero_run rfl) rfl H ?_
        clear H; intro g11 w H
        refine OPS.nil ?_
        refine ⟨H.reidx [2, 3, 4] (by decide) rfl, ?_⟩
        rw [← hQ]
        rw [upd_comm (a := 12) (b := 11) rfl]
        exact qcast (by kernel_rfl) (s1100 g11 g12 w (H.reidx [0, 1, 2, 3, 4] (by decide) rfl))
    clear s1100
    have s0000 : ∀ (w : World), SH w0 [] w ([] ++ [⟨g5, 51, [I f, I t]⟩, ⟨g4, 50, rideCells more⟩, ⟨g3, 27, [.slice HA hs.length hc, .slice RA rs.length rc, .slice A R.length cap, I bike, I kind]⟩]) → Q 4 #[true, true, false, false, false, false] e0 w := by
      intro w H; rw [hQ]
      refine OPH.all [2, 3] (by kernel_rfl) (by simp) rfl ?_
      intro i hi; simp only [List.mem_cons, List.not_mem_nil, or_false] at hi
      rcases hi with rfl | rfl
      · refine ⟨_, rfl, ?_⟩
        refine OPS.alloc rfl rfl rfl rfl (zero_run rfl) rfl H ?_
        clear H; intro g11 w H
        refine OPS.nil ?_
        refine ⟨H.reidx [1, 2, 3] (by decide) rfl, ?_⟩
        rw [← hQ]
        exact qcast (by kernel_rfl) (s1000 g11 w (H.reidx [0, 1, 2, 3] (by decide) rfl))
      · refine ⟨_, rfl, ?_⟩
        refine OPS.alloc rfl rfl rfl rfl (zero_run rfl) rfl H ?_
        clear H; intro g12 w H
        refine OPS.nil ?_
        refine ⟨H.reidx [1, 2, 3] (by decide) rfl, ?_⟩
        rw [← hQ]
        exact qcast (by kernel_rfl) (s0100 g12 w (H.reidx [0, 1, 2, 3] (by decide) rfl))
    exact s0000 w H
  clear H
  rintro u w ⟨g11, g12, h11, h12, H⟩
  refine WP.know (t := 11) h11 (WP.know (t := 12) h12 ?_)
  refine WP.seq ?_
  refine WP.region ?_
  refine OPS.val rfl rfl rfl (Ev.fieldAddr (fld_run rfl) rfl) ?_
  first | refine OPS.store 0 _ rfl rfl rfl (size_run rfl) rfl (cS rfl) rfl rfl H rfl (by simp) ?_ | refine OPS.store 1 _ rfl rfl rfl (size_run rfl) rfl (cS rfl) rfl rfl H rfl (by simp) ?_ | refine OPS.store 2 _ rfl rfl rfl (size_run rfl) rfl (cS rfl) rfl rfl H rfl (by simp) ?_ | refine OPS.store 3 _ rfl rfl rfl (size_run rfl) rfl (cS rfl) rfl rfl H rfl (by simp) ?_ | refine OPS.store 4 _ rfl rfl rfl (size_run rfl) rfl (cS rfl) rfl rfl H rfl (by simp) ?_ | refine OPS.store 5 _ rfl rfl rfl (size_run rfl) rfl (cS rfl) rfl rfl H rfl (by simp) ?_ | refine OPS.store 6 _ rfl rfl rfl (size_run rfl) rfl (cS rfl) rfl rfl H rfl (by simp) ?_ | refine OPS.store 7 _ rfl rfl rfl (size_run rfl) rfl (cS rfl) rfl rfl H rfl (by simp) ?_ | refine OPS.store 8 _ rfl rfl rfl (size_run rfl) rfl (cS rfl) rfl rfl H rfl (by simp) ?_
  clear H; intro w H; try simp only [List.set_cons_zero, List.set_cons_succ, putL, Nat.zero_add] at H
  refine OPS.nil ?_
  refine WP.seq ?_
  refine WP.seq ?_
  refine WP.region ?_
  refine OPS.val rfl rfl rfl (Ev.fieldAddr (fld_run rfl) rfl) ?_
  refine OPS.val rfl rfl rfl (Ev.load1 (agg_run rfl) rfl (by first | exact H.ldL 0 rfl _ rfl | exact H.ldL 1 rfl _ rfl | exact H.ldL 2 rfl _ rfl | exact H.ldL 3 rfl _ rfl | exact H.ldL 4 rfl _ rfl | exact H.ldL 5 rfl _ rfl | exact H.ldL 6 rfl _ rfl | exact H.ldL 7 rfl _ rfl | exact H.ld0 (by assumption) | assumption | exact H.ldS (by assumption) (by assumption))) ?_
  refine OPS.val rfl rfl rfl (Ev.len (el_run rfl) rfl) ?_
  refine OPS.val rfl rfl rfl (Ev.sub rfl rfl (by unfold fits; omega)) ?_
  refine OPS.val rfl rfl rfl (Ev.asI rfl) ?_
  refine OPS.nil ?_
  refine WP.block ?_
  refine WP.loop [13, 64, 65, 66, 67, 68, 69, 70, 71, 72, 73, 74, 75, 76, 77] (fun k e w' => ∃ (j : Nat) (z : Int) (AB : Option Addr) (cB : Nat) (LB : List Blk), j + k = R.length ∧ z + 1 + j = R.length ∧ e 13 = I z ∧ OwnS AB cB j ((R.reverse.take j).flatMap rideCells) 50 13 LB ∧ SH w0 [] w' (⟨g11, 27, [.slice HA hs.length hc, .slice RA rs.length rc, .slice AB j cB, I bike, I kind]⟩ :: ⟨g12, 27, [.slice HA hs.length hc, .slice RA rs.length rc, .slice A R.length cap, I bike, I kind]⟩ :: ⟨g5, 51, [I f, I t]⟩ :: ⟨g4, 50, rideCells more⟩ :: ⟨g3, 27, [.slice HA hs.length hc, .slice RA rs.length rc, .slice A R.length cap, I bike, I kind]⟩ :: LB)) (R.length) (⟨0, R.length - 1, none, 0, [], by omega, by omega, rfl, OwnS.nil, H⟩) ?_
  clear H
  rintro k u w ⟨j, z, AB, cB, LB, hk, hz, h13, hOB, H⟩
  refine WP.know (t := 13) h13 ?_
  refine WP.seq ?_
  refine WP.seq ?_
  refine WP.region ?_
  refine OPS.val rfl rfl rfl (Ev.mvI rfl) ?_
  refine OPS.val rfl rfl rfl (Ev.geq rfl rfl) ?_
  refine OPS.nil ?_
  refine WP.cond rfl (fun hc10 => ?_) (fun hc10 => ?_)
  · have hz0 : 0 ≤ z := by simpa using hc10
    obtain ⟨i, rfl⟩ := Int.eq_ofNat_of_zero_le hz0
    have hlt : i < R.length := by omega
    have hjl : j < R.reverse.length := by rw [List.length_reverse]; omega
    obtain ⟨b, o, rfl, hcx⟩ := hrr i hlt
    have htk : (R.reverse.take (j + 1)).flatMap rideCells = (R.reverse.take j).flatMap rideCells ++ rideCells R[i] := by
      rw [List.take_succ_eq_append_getElem hjl, List.flatMap_append, List.getElem_reverse]
      simp only [List.flatMap_cons, List.flatMap_nil, List.append_nil]
      congr 3; omega
    obtain ⟨r, hr⟩ : ∃ r, r = R[i] := ⟨_, rfl⟩
    rw [← hr] at hcx htk
    refine WP.skip ?_
    refine WP.seq ?_
    refine WP.block ?_
    have E := H
    replace H := (H.drop (List.sublist_cons_self _ _)).drop (List.sublist_append_left [_, _, _, _] _)
    refine WP.rheldC [68, 69, 70, 71, 72, 73, 74, 75, 76, 77] (fun _ w' => ∃ (AB : Option Addr) (cB : Nat) (LB : List Blk), OwnS AB cB (j + 1) ((R.reverse.take j).flatMap rideCells ++ rideCells r) 50 13 LB ∧ SH w0 [] w' (⟨g11, 27, [.slice HA hs.length hc, .slice RA rs.length rc, .slice AB (j + 1) cB, I bike, I kind]⟩ :: ⟨g12, 27, [.slice HA hs.length hc, .slice RA rs.length rc, .slice (some ⟨b, o, none⟩) R.length cap, I bike, I kind]⟩ :: ⟨g5, 51, [I f, I t]⟩ :: ⟨g4, 50, rideCells more⟩ :: ⟨g3, 27, [.slice HA hs.length hc, .slice RA rs.length rc, .slice (some ⟨b, o, none⟩) R.length cap, I bike, I kind]⟩ :: LB)) mixed H ?_ ?_
    · clear H; intro w hbw12 H
      refine OPH.take 0 rfl rfl rfl rfl (by kernel_rfl) (by kernel_rfl) (by kernel_rfl) rfl (by first | exact H | exact H.drop (List.sublist_cons_self _ _) | exact H.drop ((List.sublist_cons_self _ _).trans (List.sublist_cons_self _ _)) | exact H.drop ((List.sublist_cons_self _ _).trans ((List.sublist_cons_self _ _).trans (List.sublist_cons_self _ _))) | exact H.drop ((List.sublist_cons_self _ _).trans ((List.sublist_cons_self _ _).trans ((List.sublist_cons_self _ _).trans (List.sublist_cons_self _ _)))) | exact H.drop ((List.sublist_cons_self _ _).trans ((List.sublist_cons_self _ _).trans ((List.sublist_cons_self _ _).trans ((List.sublist_cons_self _ _).trans (List.sublist_cons_self _ _)))))) (fun w H => Ev.fieldAddr (fld_run rfl) rfl) ?_
      refine OPH.take 2 rfl rfl rfl rfl (by kernel_rfl) (by kernel_rfl) (by kernel_rfl) rfl (by first | exact H | exact H.drop (List.sublist_cons_self _ _) | exact H.drop ((List.sublist_cons_self _ _).trans (List.sublist_cons_self _ _)) | exact H.drop ((List.sublist_cons_self _ _).trans ((List.sublist_cons_self _ _).trans (List.sublist_cons_self _ _))) | exact H.drop ((List.sublist_cons_self _ _).trans ((List.sublist_cons_self _ _).trans ((List.sublist_cons_self _ _).trans (List.sublist_cons_self _ _)))) | exact H.drop ((List.sublist_cons_self _ _).trans ((List.sublist_cons_self _ _).trans ((List.sublist_cons_self _ _).trans ((List.sublist_cons_self _ _).trans (List.sublist_cons_self _ _)))))) (fun w H => Ev.fieldAddr (fld_run rfl) rfl) ?_
      refine OPH.take 3 rfl rfl rfl rfl (by kernel_rfl) (by kernel_rfl) (by kernel_rfl) rfl (by first | exact H | exact H.drop (List.sublist_cons_self _ _) | exact H.drop ((List.sublist_cons_self _ _).trans (List.sublist_cons_self _ _)) | exact H.drop ((List.sublist_cons_self _ _).trans ((List.sublist_cons_self _ _).trans (List.sublist_cons_self _ _))) | exact H.drop ((List.sublist_cons_self _ _).trans ((List.sublist_cons_self _ _).trans ((List.sublist_cons_self _ _).trans (List.sublist_cons_self _ _)))) | exact H.drop ((List.sublist_cons_self _ _).trans ((List.sublist_cons_self _ _).trans ((List.sublist_cons_self _ _).trans ((List.sublist_cons_self _ _).trans (List.sublist_cons_self _ _)))))) (fun w H => Ev.load1 (agg_run rfl) rfl (by first | exact H.ldL 0 rfl _ rfl | exact H.ldL 1 rfl _ rfl | exact H.ldL 2 rfl _ rfl | exact H.ldL 3 rfl _ rfl | exact H.ldL 4 rfl _ rfl | exact H.ldL 5 rfl _ rfl | exact H.ldL 6 rfl _ rfl | exact H.ldL 7 rfl _ rfl | exact H.ld0 (by assumption) | assumption | exact H.ldS (by assumption) (by assumption))) ?_
      refine OPH.take 4 rfl rfl rfl rfl (by kernel_rfl) (by kernel_rfl) (by kernel_rfl) rfl (by first | exact H | exact H.drop (List.sublist_cons_self _ _) | exact H.drop ((List.sublist_cons_self _ _).trans (List.sublist_cons_self _ _)) | exact H.drop ((List.sublist_cons_self _ _).trans ((List.sublist_cons_self _ _).trans (List.sublist_cons_self _ _))) | exact H.drop ((List.sublist_cons_self _ _).trans ((List.sublist_cons_self _ _).trans ((List.sublist_cons_self _ _).trans (List.sublist_cons_self _ _)))) | exact H.drop ((List.sublist_cons_self _ _).trans ((List.sublist_cons_self _ _).trans ((List.sublist_cons_self _ _).trans ((List.sublist_cons_self _ _).trans (List.sublist_cons_self _ _)))))) (fun w H => Ev.mvI rfl) ?_
      refine OPH.take 5 rfl rfl rfl rfl (by kernel_rfl) (by kernel_rfl) (by kernel_rfl) rfl (by first | exact H | exact H.drop (List.sublist_cons_self _ _) | exact H.drop ((List.sublist_cons_self _ _).trans (List.sublist_cons_self _ _)) | exact H.drop ((List.sublist_cons_self _ _).trans ((List.sublist_cons_self _ _).trans (List.sublist_cons_self _ _))) | exact H.drop ((List.sublist_cons_self _ _).trans ((List.sublist_cons_self _ _).trans ((List.sublist_cons_self _ _).trans (List.sublist_cons_self _ _)))) | exact H.drop ((List.sublist_cons_self _ _).trans ((List.sublist_cons_self _ _).trans ((List.sublist_cons_self _ _).trans ((List.sublist_cons_self _ _).trans (List.sublist_cons_self _ _)))))) (fun w H => (by first | exact Ev.indexAddr1 (el_run rfl) (size_run rfl) rfl rfl rfl (by omega) | exact Ev.indexAddr (el_run rfl) (size_run rfl) rfl rfl rfl (by omega))) ?_
      refine OPH.take 6 rfl rfl rfl rfl (by kernel_rfl) (by kernel_rfl) (by kernel_rfl) rfl (by first | exact H | exact H.drop (List.sublist_cons_self _ _) | exact H.drop ((List.sublist_cons_self _ _).trans (List.sublist_cons_self _ _)) | exact H.drop ((List.sublist_cons_self _ _).trans ((List.sublist_cons_self _ _).trans (List.sublist_cons_self _ _))) | exact H.drop ((List.sublist_cons_self _ _).trans ((List.sublist_cons_self _ _).trans ((List.sublist_cons_self _ _).trans (List.sublist_cons_self _ _)))) | exact H.drop ((List.sublist_cons_self _ _).trans ((List.sublist_cons_self _ _).trans ((List.sublist_cons_self _ _).trans ((List.sublist_cons_self _ _).trans (List.sublist_cons_self _ _)))))) (fun w H => (by first | exact Ev.loadO 0 H rfl (agg_run rfl) (size_run rfl) (by first | assumption | rfl) rfl | exact Ev.loadO 1 H rfl (agg_run rfl) (size_run rfl) (by first | assumption | rfl) rfl | exact Ev.loadO 2 H rfl (agg_run rfl) (size_run rfl) (by first | assumption | rfl) rfl | exact Ev.loadO 3 H rfl (agg_run rfl) (size_run rfl) (by first | assumption | rfl) rfl | exact Ev.loadO 4 H rfl (agg_run rfl) (size_run rfl) (by first | assumption | rfl) rfl | exact Ev.loadO 5 H rfl (agg_run rfl) (size_run rfl) (by first | assumption | rfl) rfl | exact Ev.loadO 6 H rfl (agg_run rfl) (size_run rfl) (by first | assumption | rfl) rfl | (change Ev _ _ _ _ (Op.load 50 (Operand.tmp 73)) _; exact Ev.loadN (rideCells r) (agg_run rfl) (size_run rfl) rfl (cellsAt_sh H hcx)))) ?_
      refine OPH.all [1, 7] (by kernel_rfl) (by simp) rfl ?_
      intro i hi; simp only [List.mem_cons, List.not_mem_nil, or_false] at hi
      rcases hi with rfl | rfl
      · refine ⟨_, rfl, ?_⟩
        first
          | refine OPS.val rfl rfl rfl (Ev.load1 (agg_run rfl) rfl (E7.ldL 1 rfl _ rfl)) ?_
          | refine OPS.val rfl rfl rfl (Ev.load1 (agg_run rfl) rfl ((E.toBelow hbw12).ldL 0 rfl _ rfl)) ?_
        refine OPS.nil ?_
        refine ⟨(by first | exact H | exact H.drop (List.sublist_cons_self _ _) | exact H.drop ((List.sublist_cons_self _ _).trans (List.sublist_cons_self _ _)) | exact H.drop ((List.sublist_cons_self _ _).trans ((List.sublist_cons_self _ _).trans (List.sublist_cons_self _ _))) | exact H.drop ((List.sublist_cons_self _ _).trans ((List.sublist_cons_self _ _).trans ((List.sublist_cons_self _ _).trans (List.sublist_cons_self _ _)))) | exact H.drop ((List.sublist_cons_self _ _).trans ((List.sublist_cons_self _ _).trans ((List.sublist_cons_self _ _).trans ((List.sublist_cons_self _ _).trans (List.sublist_cons_self _ _)))))), ?_⟩
        refine OPH.all [7] (by kernel_rfl) (by simp) rfl ?_
        intro i hi; simp only [List.mem_cons, List.not_mem_nil, or_false] at hi
        rcases hi with rfl
        · refine ⟨_, rfl, ?_⟩
          refine OPS.buildSlice rfl rfl rfl rfl (bsl_25_1_0 rfl) (E.toBelow hbw12) ?_
          clear H; intro g75 w E7; clear E
          have H := ((E7.drop (List.sublist_cons_self _ _)).drop (List.sublist_cons_self _ _)).drop (List.sublist_append_left [_, _, _, _] _)
          refine OPS.nil ?_
          refine ⟨(by first | exact H | exact H.drop (List.sublist_cons_self _ _) | exact H.drop ((List.sublist_cons_self _ _).trans (List.sublist_cons_self _ _)) | exact H.drop ((List.sublist_cons_self _ _).trans ((List.sublist_cons_self _ _).trans (List.sublist_cons_self _ _))) | exact H.drop ((List.sublist_cons_self _ _).trans ((List.sublist_cons_self _ _).trans ((List.sublist_cons_self _ _).trans (List.sublist_cons_self _ _)))) | exact H.drop ((List.sublist_cons_self _ _).trans ((List.sublist_cons_self _ _).trans ((List.sublist_cons_self _ _).trans ((List.sublist_cons_self _ _).trans (List.sublist_cons_self _ _)))))), ?_⟩
          refine OPH.all [8] (by kernel_rfl) (by simp) rfl ?_
          intro i hi; simp only [List.mem_cons, List.not_mem_nil, or_false] at hi
          rcases hi with rfl
          · refine ⟨_, rfl, ?_⟩
            refine OPS.append (m := 1) (news := [I r.id, I r.rider, I r.sl, I r.sh, I r.el, I r.eh, Bo r.opn, .slice r.L.A r.L.l.length r.L.cap, .slice r.P.A r.P.l.length r.P.cap, I r.fw, I r.fp, I r.wh, I r.pl]) (R := [⟨g75, 50, [I r.id, I r.rider, I r.sl, I r.sh, I r.el, I r.eh, Bo r.opn, .slice r.L.A r.L.l.length r.L.cap, .slice r.P.A r.P.l.length r.P.cap, I r.fw, I r.fp, I r.wh, I r.pl]⟩, ⟨g11, 27, [.slice HA hs.length hc, .slice RA rs.length rc, .slice AB j cB, I bike, I kind]⟩, ⟨g12, 27, [.slice HA hs.length hc, .slice RA rs.length rc, .slice (some ⟨b, o, none⟩) R.length cap, I bike, I kind]⟩, ⟨g5, 51, [I f, I t]⟩, ⟨g4, 50, rideCells more⟩, ⟨g3, 27, [.slice HA hs.length hc, .slice RA rs.length rc, .slice (some ⟨b, o, none⟩) R.length cap, I bike, I kind]⟩]) rfl rfl rfl rfl rfl (sl_run rfl) rfl rfl hOB rfl (src_own E7 0 rfl) rfl (by omega) (by unfold maxLen; omega) E7 (List.Perm.refl _) ?_
            clear H hOB; intro AB cB LB w hOB E8; clear E7
            have H := ((E8.drop (List.sublist_cons_self _ _)).drop (List.sublist_cons_self _ _)).drop (List.sublist_append_left [_, _, _, _] _)
            refine OPS.nil ?_
            refine ⟨(by first | exact H | exact H.drop (List.sublist_cons_self _ _) | exact H.drop ((List.sublist_cons_self _ _).trans (List.sublist_cons_self _ _)) | exact H.drop ((List.sublist_cons_self _ _).trans ((List.sublist_cons_self _ _).trans (List.sublist_cons_self _ _))) | exact H.drop ((List.sublist_cons_self _ _).trans ((List.sublist_cons_self _ _).trans ((List.sublist_cons_self _ _).trans (List.sublist_cons_self _ _)))) | exact H.drop ((List.sublist_cons_self _ _).trans ((List.sublist_cons_self _ _).trans ((List.sublist_cons_self _ _).trans ((List.sublist_cons_self _ _).trans (List.sublist_cons_self _ _)))))), ?_⟩
            refine OPH.take 9 rfl rfl rfl rfl (by kernel_rfl) (by kernel_rfl) (by kernel_rfl) rfl (by first | exact H | exact H.drop (List.sublist_cons_self _ _) | exact H.drop ((List.sublist_cons_self _ _).trans (List.sublist_cons_self _ _)) | exact H.drop ((List.sublist_cons_self _ _).trans ((List.sublist_cons_self _ _).trans (List.sublist_cons_self _ _))) | exact H.drop ((List.sublist_cons_self _ _).trans ((List.sublist_cons_self _ _).trans ((List.sublist_cons_self _ _).trans (List.sublist_cons_self _ _)))) | exact H.drop ((List.sublist_cons_self _ _).trans ((List.sublist_cons_self _ _).trans ((List.sublist_cons_self _ _).trans ((List.sublist_cons_self _ _).trans (List.sublist_cons_self _ _)))))) (fun w H => Ev.fieldAddr (fld_run rfl) rfl) ?_
            refine OPH.all [10] (by kernel_rfl) (by simp) rfl ?_
            intro i hi; simp only [List.mem_cons, List.not_mem_nil, or_false] at hi
            rcases hi with rfl
            · refine ⟨_, rfl, ?_⟩
              refine OPS.store 1 _ rfl rfl rfl (size_run rfl) rfl (cS rfl) rfl rfl E8 rfl (by simp) ?_
              clear H; intro w E9; clear E8
              simp only [List.set_cons_zero, List.set_cons_succ, List.cons_append, List.nil_append, putL] at E9
              have E10 := E9.drop (List.sublist_cons_self _ _)
              have H := (E10.drop (List.sublist_cons_self _ _)).drop (List.sublist_append_left [_, _, _, _] _)
              refine OPS.nil ?_
              refine ⟨(by first | exact H | exact H.drop (List.sublist_cons_self _ _) | exact H.drop ((List.sublist_cons_self _ _).trans (List.sublist_cons_self _ _)) | exact H.drop ((List.sublist_cons_self _ _).trans ((List.sublist_cons_self _ _).trans (List.sublist_cons_self _ _))) | exact H.drop ((List.sublist_cons_self _ _).trans ((List.sublist_cons_self _ _).trans ((List.sublist_cons_self _ _).trans (List.sublist_cons_self _ _)))) | exact H.drop ((List.sublist_cons_self _ _).trans ((List.sublist_cons_self _ _).trans ((List.sublist_cons_self _ _).trans ((List.sublist_cons_self _ _).trans (List.sublist_cons_self _ _)))))), ?_⟩
              refine OPH.done (by kernel_rfl) ?_
              exact ⟨(by repeat (first | exact Agree.refl _ _ | exact Agree.mix _ _ _ | refine Agree.upd rfl ?_ | refine Agree.mix2 rfl ?_)), AB, cB, LB, hOB, E10⟩
      · refine ⟨_, rfl, ?_⟩
        refine OPS.buildSlice rfl rfl rfl rfl (bsl_25_1_0 rfl) (E.toBelow hbw12) ?_
        clear H; intro g75 w E7; clear E
        have H := ((E7.drop (List.sublist_cons_self _ _)).drop (List.sublist_cons_self _ _)).drop (List.sublist_append_left [_, _, _, _] _)
        refine OPS.nil ?_
        refine ⟨(by first | exact H | exact H.drop (List.sublist_cons_self _ _) | exact H.drop ((List.sublist_cons_self _ _).trans (List.sublist_cons_self _ _)) | exact H.drop ((List.sublist_cons_self _ _).trans ((List.sublist_cons_self _ _).trans (List.sublist_cons_self _ _))) | exact H.drop ((List.sublist_cons_self _ _).trans ((List.sublist_cons_self _ _).trans ((List.sublist_cons_self _ _).trans (List.sublist_cons_self _ _)))) | exact H.drop ((List.sublist_cons_self _ _).trans ((List.sublist_cons_self _ _).trans ((List.sublist_cons_self _ _).trans ((List.sublist_cons_self _ _).trans (List.sublist_cons_self _ _)))))), ?_⟩
        refine OPH.all [1] (by kernel_rfl) (by simp) rfl ?_
        intro i hi; simp only [List.mem_cons, List.not_mem_nil, or_false] at hi
        rcases hi with rfl
        · refine ⟨_, rfl, ?_⟩
          first
            | refine OPS.val rfl rfl rfl (Ev.load1 (agg_run rfl) rfl (E7.ldL 1 rfl _ rfl)) ?_
            | refine OPS.val rfl rfl rfl (Ev.load1 (agg_run rfl) rfl ((E.toBelow hbw12).ldL 0 rfl _ rfl)) ?_
          refine OPS.nil ?_
          refine ⟨(by first | exact H | exact H.drop (List.sublist_cons_self _ _) | exact H.drop ((List.sublist_cons_self _ _).trans (List.sublist_cons_self _ _)) | exact H.drop ((List.sublist_cons_self _ _).trans ((List.sublist_cons_self _ _).trans (List.sublist_cons_self _ _))) | exact H.drop ((List.sublist_cons_self _ _).trans ((List.sublist_cons_self _ _).trans ((List.sublist_cons_self _ _).trans (List.sublist_cons_self _ _)))) | exact H.drop ((List.sublist_cons_self _ _).trans ((List.sublist_cons_self _ _).trans ((List.sublist_cons_self _ _).trans ((List.sublist_cons_self _ _).trans (List.sublist_cons_self _ _)))))), ?_⟩
          refine OPH.all [8] (by kernel_rfl) (by simp) rfl ?_
          intro i hi; simp only [List.mem_cons, List.not_mem_nil, or_false] at hi
          rcases hi with rfl
          · refine ⟨_, rfl, ?_⟩
            refine OPS.append (m := 1) (news := [I r.id, I r.rider, I r.sl, I r.sh, I r.el, I r.eh, Bo r.opn, .slice r.L.A r.L.l.length r.L.cap, .slice r.P.A r.P.l.length r.P.cap, I r.fw, I r.fp, I r.wh, I r.pl]) (R := [⟨g75, 50, [I r.id, I r.rider, I r.sl, I r.sh, I r.el, I r.eh, Bo r.opn, .slice r.L.A r.L.l.length r.L.cap, .slice r.P.A r.P.l.length r.P.cap, I r.fw, I r.fp, I r.wh, I r.pl]⟩, ⟨g11, 27, [.slice HA hs.length hc, .slice RA rs.length rc, .slice AB j cB, I bike, I kind]⟩, ⟨g12, 27, [.slice HA hs.length hc, .slice RA rs.length rc, .slice (some ⟨b, o, none⟩) R.length cap, I bike, I kind]⟩, ⟨g5, 51, [I f, I t]⟩, ⟨g4, 50, rideCells more⟩, ⟨g3, 27, [.slice HA hs.length hc, .slice RA rs.length rc, .slice (some ⟨b, o, none⟩) R.length cap, I bike, I kind]⟩]) rfl rfl rfl rfl rfl (sl_run rfl) rfl rfl hOB rfl (src_own E7 0 rfl) rfl (by omega) (by unfold maxLen; omega) E7 (List.Perm.refl _) ?_
            clear H hOB; intro AB cB LB w hOB E8; clear E7
            have H := ((E8.drop (List.sublist_cons_self _ _)).drop (List.sublist_cons_self _ _)).drop (List.sublist_append_left [_, _, _, _] _)
            refine OPS.nil ?_
            refine ⟨(by first | exact H | exact H.drop (List.sublist_cons_self _ _) | exact H.drop ((List.sublist_cons_self _ _).trans (List.sublist_cons_self _ _)) | exact H.drop ((List.sublist_cons_self _ _).trans ((List.sublist_cons_self _ _).trans (List.sublist_cons_self _ _))) | exact H.drop ((List.sublist_cons_self _ _).trans ((List.sublist_cons_self _ _).trans ((List.sublist_cons_self _ _).trans (List.sublist_cons_self _ _)))) | exact H.drop ((List.sublist_cons_self _ _).trans ((List.sublist_cons_self _ _).trans ((List.sublist_cons_self _ _).trans ((List.sublist_cons_self _ _).trans (List.sublist_cons_self _ _)))))), ?_⟩
            refine OPH.take 9 rfl rfl rfl rfl (by kernel_rfl) (by kernel_rfl) (by kernel_rfl) rfl (by first | exact H | exact H.drop (List.sublist_cons_self _ _) | exact H.drop ((List.sublist_cons_self _ _).trans (List.sublist_cons_self _ _)) | exact H.drop ((List.sublist_cons_self _ _).trans ((List.sublist_cons_self _ _).trans (List.sublist_cons_self _ _))) | exact H.drop ((List.sublist_cons_self _ _).trans ((List.sublist_cons_self _ _).trans ((List.sublist_cons_self _ _).trans (List.sublist_cons_self _ _)))) | exact H.drop ((List.sublist_cons_self _ _).trans ((List.sublist_cons_self _ _).trans ((List.sublist_cons_self _ _).trans ((List.sublist_cons_self _ _).trans (List.sublist_cons_self _ _)))))) (fun w H => Ev.fieldAddr (fld_run rfl) rfl) ?_
            refine OPH.all [10] (by kernel_rfl) (by simp) rfl ?_
            intro i hi; simp only [List.mem_cons, List.not_mem_nil, or_false] at hi
            rcases hi with rfl
            · refine ⟨_, rfl, ?_⟩
              refine OPS.store 1 _ rfl rfl rfl (size_run rfl) rfl (cS rfl) rfl rfl E8 rfl (by simp) ?_
              clear H; intro w E9; clear E8
              simp only [List.set_cons_zero, List.set_cons_succ, List.cons_append, List.nil_append, putL] at E9
              have E10 := E9.drop (List.sublist_cons_self _ _)
              have H := (E10.drop (List.sublist_cons_self _ _)).drop (List.sublist_append_left [_, _, _, _] _)
              refine OPS.nil ?_
              refine ⟨(by first | exact H | exact H.drop (List.sublist_cons_self _ _) | exact H.drop ((List.sublist_cons_self _ _).trans (List.sublist_cons_self _ _)) | exact H.drop ((List.sublist_cons_self _ _).trans ((List.sublist_cons_self _ _).trans (List.sublist_cons_self _ _))) | exact H.drop ((List.sublist_cons_self _ _).trans ((List.sublist_cons_self _ _).trans ((List.sublist_cons_self _ _).trans (List.sublist_cons_self _ _)))) | exact H.drop ((List.sublist_cons_self _ _).trans ((List.sublist_cons_self _ _).trans ((List.sublist_cons_self _ _).trans ((List.sublist_cons_self _ _).trans (List.sublist_cons_self _ _)))))), ?_⟩
              refine OPH.done (by kernel_rfl) ?_
              exact ⟨(by repeat (first | exact Agree.refl _ _ | exact Agree.mix _ _ _ | refine Agree.upd rfl ?_ | refine Agree.mix2 rfl ?_)), AB, cB, LB, hOB, E10⟩
    clear H
    rintro u w ⟨AB, cB, LB, hOB, H⟩
    clear E
    refine WP.region ?_
    refine OPS.val rfl rfl rfl (Ev.mvI rfl) ?_
    refine OPS.val rfl rfl rfl (Ev.sub rfl rfl (by unfold fits; omega)) ?_
    refine OPS.val rfl rfl rfl (Ev.asI rfl) ?_
    refine OPS.nil ?_
    exact ⟨(by repeat (first | exact Agree.refl _ _ | exact Agree.mix _ _ _ | refine Agree.upd rfl ?_ | refine Agree.mix2 rfl ?_)), k - 1, by omega, j + 1, (i : Int) - 1, AB, cB, LB, by omega, by omega, rfl, (by rw [htk]; exact hOB), H⟩
  have hz0 : z < 0 := by simpa using hc10
  obtain rfl : j = R.length := by omega
  rw [List.take_of_length_le (by rw [List.length_reverse]; omega)] at hOB
  replace H := H.perm (List.Perm.swap _ _ _)
  refine WP.exit ?_
  refine XB.hit ?_
  refine WP.seq ?_
  have E := H
  replace H := H.drop (List.sublist_cons_self _ _)
  refine WP.rheldC [78, 79, 80, 81, 82, 83, 84, 85] (fun _ w' => ∃ (AE : Option Addr) (ce : Nat) (Le : List Blk), OwnS AE ce (R.length + 1) (R.flatMap rideCells ++ [I more.id, I more.rider, I more.sl, I more.sh, I more.el, I more.eh, Bo more.opn, .slice more.L.A more.L.l.length more.L.cap, .slice more.P.A more.P.l.length more.P.cap, I more.fw, I more.fp, I more.wh, I more.pl]) 50 13 Le ∧ SH w0 [] w' ((⟨g12, 27, [.slice HA hs.length hc, .slice RA rs.length rc, .slice AE (R.length + 1) ce, I bike, I kind]⟩ :: ⟨g11, 27, [.slice HA hs.length hc, .slice RA rs.length rc, .slice AB R.length cB, I bike, I kind]⟩ :: ⟨g5, 51, [I f, I t]⟩ :: ⟨g4, 50, rideCells more⟩ :: ⟨g3, 27, [.slice HA hs.length hc, .slice RA rs.length rc, .slice A R.length cap, I bike, I kind]⟩ :: LB) ++ Le)) mixed H ?_ ?_
  · clear H; intro w hbw13 H
    refine OPH.take 1 rfl rfl rfl rfl (by kernel_rfl) (by kernel_rfl) (by kernel_rfl) rfl (by first | exact H | exact H.drop (List.sublist_cons_self _ _) | exact H.drop ((List.sublist_cons_self _ _).trans (List.sublist_cons_self _ _)) | exact H.drop ((List.sublist_cons_self _ _).trans ((List.sublist_cons_self _ _).trans (List.sublist_cons_self _ _))) | exact H.drop ((List.sublist_cons_self _ _).trans ((List.sublist_cons_self _ _).trans ((List.sublist_cons_self _ _).trans (List.sublist_cons_self _ _)))) | exact H.drop ((List.sublist_cons_self _ _).trans ((List.sublist_cons_self _ _).trans ((List.sublist_cons_self _ _).trans ((List.sublist_cons_self _ _).trans (List.sublist_cons_self _ _)))))) (fun w H => Ev.fieldAddr (fld_run rfl) rfl) ?_
    refine OPH.take 2 rfl rfl rfl rfl (by kernel_rfl) (by kernel_rfl) (by kernel_rfl) rfl (by first | exact H | exact H.drop (List.sublist_cons_self _ _) | exact H.drop ((List.sublist_cons_self _ _).trans (List.sublist_cons_self _ _)) | exact H.drop ((List.sublist_cons_self _ _).trans ((List.sublist_cons_self _ _).trans (List.sublist_cons_self _ _))) | exact H.drop ((List.sublist_cons_self _ _).trans ((List.sublist_cons_self _ _).trans ((List.sublist_cons_self _ _).trans (List.sublist_cons_self _ _)))) | exact H.drop ((List.sublist_cons_self _ _).trans ((List.sublist_cons_self _ _).trans ((List.sublist_cons_self _ _).trans ((List.sublist_cons_self _ _).trans (List.sublist_cons_self _ _)))))) (fun w H => Ev.load1 (agg_run rfl) rfl (by first | exact H.ldL 0 rfl _ rfl | exact H.ldL 1 rfl _ rfl | exact H.ldL 2 rfl _ rfl | exact H.ldL 3 rfl _ rfl | exact H.ldL 4 rfl _ rfl | exact H.ldL 5 rfl _ rfl | exact H.ldL 6 rfl _ rfl | exact H.ldL 7 rfl _ rfl | exact H.ld0 (by assumption) | assumption | exact H.ldS (by assumption) (by assumption))) ?_
    refine OPH.take 4 rfl rfl rfl rfl (by kernel_rfl) (by kernel_rfl) (by kernel_rfl) rfl (by first | exact H | exact H.drop (List.sublist_cons_self _ _) | exact H.drop ((List.sublist_cons_self _ _).trans (List.sublist_cons_self _ _)) | exact H.drop ((List.sublist_cons_self _ _).trans ((List.sublist_cons_self _ _).trans (List.sublist_cons_self _ _))) | exact H.drop ((List.sublist_cons_self _ _).trans ((List.sublist_cons_self _ _).trans ((List.sublist_cons_self _ _).trans (List.sublist_cons_self _ _)))) | exact H.drop ((List.sublist_cons_self _ _).trans ((List.sublist_cons_self _ _).trans ((List.sublist_cons_self _ _).trans ((List.sublist_cons_self _ _).trans (List.sublist_cons_self _ _)))))) (fun w H => (by first | exact Ev.loadO 0 H rfl (agg_run rfl) (size_run rfl) (by first | assumption | rfl) rfl | exact Ev.loadO 1 H rfl (agg_run rfl) (size_run rfl) (by first | assumption | rfl) rfl | exact Ev.loadO 2 H rfl (agg_run rfl) (size_run rfl) (by first | assumption | rfl) rfl | exact Ev.loadO 3 H rfl (agg_run rfl) (size_run rfl) (by first | assumption | rfl) rfl | exact Ev.loadO 4 H rfl (agg_run rfl) (size_run rfl) (by first | assumption | rfl) rfl | exact Ev.loadO 5 H rfl (agg_run rfl) (size_run rfl) (by first | assumption | rfl) rfl | exact Ev.loadO 6 H rfl (agg_run rfl) (size_run rfl) (by first | assumption | rfl) rfl | (change Ev _ _ _ _ (Op.load 50 (Operand.tmp 4)) _; fail))) ?_
    refine OPH.all [0, 5] (by kernel_rfl) (by simp) rfl ?_
    intro i hi; simp only [List.mem_cons, List.not_mem_nil, or_false] at hi
    rcases hi with rfl | rfl
    · refine ⟨_, rfl, ?_⟩
      first
      | (refine OPS.buildSlice rfl rfl rfl rfl (bsl_25_0_ (e := fun _ => .int .i64 0)) E6 ?_
         clear H; intro g78 w E06; clear E6
         have H := ((E06.drop (List.sublist_cons_self _ _)).drop (List.sublist_cons_self _ _)).drop (List.sublist_cons_self _ _))
      | (refine OPS.buildSlice rfl rfl rfl rfl (bsl_25_0_ (e := fun _ => .int .i64 0)) (E.toBelow hbw13) ?_
         clear H; intro g78 w E0; clear E
         have H := (E0.drop (List.sublist_cons_self _ _)).drop (List.sublist_cons_self _ _))
      refine OPS.nil ?_
      refine ⟨(by first | exact H | exact H.drop (List.sublist_cons_self _ _) | exact H.drop ((List.sublist_cons_self _ _).trans (List.sublist_cons_self _ _)) | exact H.drop ((List.sublist_cons_self _ _).trans ((List.sublist_cons_self _ _).trans (List.sublist_cons_self _ _))) | exact H.drop ((List.sublist_cons_self _ _).trans ((List.sublist_cons_self _ _).trans ((List.sublist_cons_self _ _).trans (List.sublist_cons_self _ _)))) | exact H.drop ((List.sublist_cons_self _ _).trans ((List.sublist_cons_self _ _).trans ((List.sublist_cons_self _ _).trans ((List.sublist_cons_self _ _).trans (List.sublist_cons_self _ _)))))), ?_⟩
      refine OPH.all [3, 5] (by kernel_rfl) (by simp) rfl ?_
      intro i hi; simp only [List.mem_cons, List.not_mem_nil, or_false] at hi
      rcases hi with rfl | rfl
      · refine ⟨_, rfl, ?_⟩
        first
        | (refine OPS.appendE (m := R.length) (news := R.flatMap rideCells) (R := (⟨g83, 50, [I more.id, I more.rider, I more.sl, I more.sh, I more.el, I more.eh, Bo more.opn, .slice more.L.A more.L.l.length more.L.cap, .slice more.P.A more.P.l.length more.P.cap, I more.fw, I more.fp, I more.wh, I more.pl]⟩ :: ⟨g12, 27, [.slice HA hs.length hc, .slice RA rs.length rc, .slice A R.length cap, I bike, I kind]⟩ :: ⟨g11, 27, [.slice HA hs.length hc, .slice RA rs.length rc, .slice AB R.length cB, I bike, I kind]⟩ :: ⟨g5, 51, [I f, I t]⟩ :: ⟨g4, 50, rideCells more⟩ :: ⟨g3, 27, [.slice HA hs.length hc, .slice RA rs.length rc, .slice A R.length cap, I bike, I kind]⟩ :: LB)) rfl rfl rfl rfl rfl (sl_run rfl) rfl rfl (OwnS.mt (g := g78)) (rows_length rideCells_len R) (rowsFrom rideCells_len (hR.sh H).rows) (rowsOne (fun _ => rfl) R) (by omega) (by unfold maxLen; omega) E06 (by exact permBy fun f => by simp [I] <;> omega) ?_
           clear H; intro AE ce Le w hOE E046; clear E06
           have H := ((E046.drop (List.sublist_cons_self _ _)).drop (List.sublist_append_left _ _)).drop (List.sublist_cons_self _ _)
           rw [Nat.zero_add, List.nil_append] at hOE
           rw [show 0 + R.length = R.length from Nat.zero_add _])
        | (refine OPS.appendE (m := R.length) (news := R.flatMap rideCells) (R := (⟨g12, 27, [.slice HA hs.length hc, .slice RA rs.length rc, .slice A R.length cap, I bike, I kind]⟩ :: ⟨g11, 27, [.slice HA hs.length hc, .slice RA rs.length rc, .slice AB R.length cB, I bike, I kind]⟩ :: ⟨g5, 51, [I f, I t]⟩ :: ⟨g4, 50, rideCells more⟩ :: ⟨g3, 27, [.slice HA hs.length hc, .slice RA rs.length rc, .slice A R.length cap, I bike, I kind]⟩ :: LB)) rfl rfl rfl rfl rfl (sl_run rfl) rfl rfl (OwnS.mt (g := g78)) (rows_length rideCells_len R) (rowsFrom rideCells_len (hR.sh H).rows) (rowsOne (fun _ => rfl) R) (by omega) (by unfold maxLen; omega) E0 (by exact permBy fun f => by simp [I] <;> omega) ?_
           clear H; intro AE ce Le w hOE E04; clear E0
           have H := (E04.drop (List.sublist_append_left _ _)).drop (List.sublist_cons_self _ _)
           rw [Nat.zero_add, List.nil_append] at hOE
           rw [show 0 + R.length = R.length from Nat.zero_add _])
        refine OPS.nil ?_
        refine ⟨(by first | exact H | exact H.drop (List.sublist_cons_self _ _) | exact H.drop ((List.sublist_cons_self _ _).trans (List.sublist_cons_self _ _)) | exact H.drop ((List.sublist_cons_self _ _).trans ((List.sublist_cons_self _ _).trans (List.sublist_cons_self _ _))) | exact H.drop ((List.sublist_cons_self _ _).trans ((List.sublist_cons_self _ _).trans ((List.sublist_cons_self _ _).trans (List.sublist_cons_self _ _)))) | exact H.drop ((List.sublist_cons_self _ _).trans ((List.sublist_cons_self _ _).trans ((List.sublist_cons_self _ _).trans ((List.sublist_cons_self _ _).trans (List.sublist_cons_self _ _)))))), ?_⟩
        refine OPH.all [5] (by kernel_rfl) (by simp) rfl ?_
        intro i hi; simp only [List.mem_cons, List.not_mem_nil, or_false] at hi
        rcases hi with rfl
        · refine ⟨_, rfl, ?_⟩
          first
          | (refine OPS.buildSlice rfl rfl rfl rfl (bsl_25_1_0 rfl) E04 ?_
             clear H; intro g83 w E046; clear E04
             have H := ((E046.drop (List.sublist_cons_self _ _)).drop (List.sublist_append_left _ _)).drop (List.sublist_cons_self _ _))
          | (refine OPS.buildSlice rfl rfl rfl rfl (bsl_25_1_0 rfl) E0 ?_
             clear H; intro g83 w E60; clear E0
             have E06 := E60.perm (List.Perm.swap _ _ _)
             clear E60
             have H := ((E06.drop (List.sublist_cons_self _ _)).drop (List.sublist_cons_self _ _)).drop (List.sublist_cons_self _ _))
          | (refine OPS.buildSlice rfl rfl rfl rfl (bsl_25_1_0 rfl) (E.toBelow hbw13) ?_
             clear H; intro g83 w E6; clear E
             have H := (E6.drop (List.sublist_cons_self _ _)).drop (List.sublist_cons_self _ _))
          refine OPS.nil ?_
          refine ⟨(by first | exact H | exact H.drop (List.sublist_cons_self _ _) | exact H.drop ((List.sublist_cons_self _ _).trans (List.sublist_cons_self _ _)) | exact H.drop ((List.sublist_cons_self _ _).trans ((List.sublist_cons_self _ _).trans (List.sublist_cons_self _ _))) | exact H.drop ((List.sublist_cons_self _ _).trans ((List.sublist_cons_self _ _).trans ((List.sublist_cons_self _ _).trans (List.sublist_cons_self _ _)))) | exact H.drop ((List.sublist_cons_self _ _).trans ((List.sublist_cons_self _ _).trans ((List.sublist_cons_self _ _).trans ((List.sublist_cons_self _ _).trans (List.sublist_cons_self _ _)))))), ?_⟩
          refine OPH.all [6] (by kernel_rfl) (by simp) rfl ?_
          intro i hi; simp only [List.mem_cons, List.not_mem_nil, or_false] at hi
          rcases hi with rfl
          · refine ⟨_, rfl, ?_⟩
            refine OPS.append (m := 1) (news := [I more.id, I more.rider, I more.sl, I more.sh, I more.el, I more.eh, Bo more.opn, .slice more.L.A more.L.l.length more.L.cap, .slice more.P.A more.P.l.length more.P.cap, I more.fw, I more.fp, I more.wh, I more.pl]) (R := (⟨g83, 50, [I more.id, I more.rider, I more.sl, I more.sh, I more.el, I more.eh, Bo more.opn, .slice more.L.A more.L.l.length more.L.cap, .slice more.P.A more.P.l.length more.P.cap, I more.fw, I more.fp, I more.wh, I more.pl]⟩ :: ⟨g12, 27, [.slice HA hs.length hc, .slice RA rs.length rc, .slice A R.length cap, I bike, I kind]⟩ :: ⟨g11, 27, [.slice HA hs.length hc, .slice RA rs.length rc, .slice AB R.length cB, I bike, I kind]⟩ :: ⟨g5, 51, [I f, I t]⟩ :: ⟨g4, 50, rideCells more⟩ :: ⟨g3, 27, [.slice HA hs.length hc, .slice RA rs.length rc, .slice A R.length cap, I bike, I kind]⟩ :: LB)) rfl rfl rfl rfl rfl (sl_run rfl) rfl rfl hOE rfl (src_own E046 0 rfl) rfl (by omega) (by unfold maxLen; omega) E046 (List.Perm.refl _) ?_
            clear H hOE; intro AE ce Le w hOE E7; clear E046
            have H := ((E7.drop (List.sublist_cons_self _ _)).drop (List.sublist_append_left _ _)).drop (List.sublist_cons_self _ _)
            refine OPS.nil ?_
            refine ⟨(by first | exact H | exact H.drop (List.sublist_cons_self _ _) | exact H.drop ((List.sublist_cons_self _ _).trans (List.sublist_cons_self _ _)) | exact H.drop ((List.sublist_cons_self _ _).trans ((List.sublist_cons_self _ _).trans (List.sublist_cons_self _ _))) | exact H.drop ((List.sublist_cons_self _ _).trans ((List.sublist_cons_self _ _).trans ((List.sublist_cons_self _ _).trans (List.sublist_cons_self _ _)))) | exact H.drop ((List.sublist_cons_self _ _).trans ((List.sublist_cons_self _ _).trans ((List.sublist_cons_self _ _).trans ((List.sublist_cons_self _ _).trans (List.sublist_cons_self _ _)))))), ?_⟩
            refine OPH.take 7 rfl rfl rfl rfl (by kernel_rfl) (by kernel_rfl) (by kernel_rfl) rfl (by first | exact H | exact H.drop (List.sublist_cons_self _ _) | exact H.drop ((List.sublist_cons_self _ _).trans (List.sublist_cons_self _ _)) | exact H.drop ((List.sublist_cons_self _ _).trans ((List.sublist_cons_self _ _).trans (List.sublist_cons_self _ _))) | exact H.drop ((List.sublist_cons_self _ _).trans ((List.sublist_cons_self _ _).trans ((List.sublist_cons_self _ _).trans (List.sublist_cons_self _ _)))) | exact H.drop ((List.sublist_cons_self _ _).trans ((List.sublist_cons_self _ _).trans ((List.sublist_cons_self _ _).trans ((List.sublist_cons_self _ _).trans (List.sublist_cons_self _ _)))))) (fun w H => Ev.fieldAddr (fld_run rfl) rfl) ?_
            refine OPH.all [8] (by kernel_rfl) (by simp) rfl ?_
            intro i hi; simp only [List.mem_cons, List.not_mem_nil, or_false] at hi
            rcases hi with rfl
            · refine ⟨_, rfl, ?_⟩
              refine OPS.store 1 _ rfl rfl rfl (size_run rfl) rfl (cS rfl) rfl rfl E7 rfl (by simp) ?_
              clear H; intro w E8; clear E7
              simp only [List.set_cons_zero, List.set_cons_succ, List.cons_append, List.nil_append, putL] at E8
              have E10 := E8.drop (List.sublist_cons_self _ _)
              have H := (E10.drop (List.sublist_append_left (_ :: _ :: _ :: _ :: _ :: LB) _)).drop (List.sublist_cons_self _ _)
              refine OPS.nil ?_
              refine ⟨(by first | exact H | exact H.drop (List.sublist_cons_self _ _) | exact H.drop ((List.sublist_cons_self _ _).trans (List.sublist_cons_self _ _)) | exact H.drop ((List.sublist_cons_self _ _).trans ((List.sublist_cons_self _ _).trans (List.sublist_cons_self _ _))) | exact H.drop ((List.sublist_cons_self _ _).trans ((List.sublist_cons_self _ _).trans ((List.sublist_cons_self _ _).trans (List.sublist_cons_self _ _)))) | exact H.drop ((List.sublist_cons_self _ _).trans ((List.sublist_cons_self _ _).trans ((List.sublist_cons_self _ _).trans ((List.sublist_cons_self _ _).trans (List.sublist_cons_self _ _)))))), ?_⟩
              refine OPH.done (by kernel_rfl) ?_
              exact ⟨(by repeat (first | exact Agree.refl _ _ | exact Agree.mix _ _ _ | refine Agree.upd rfl ?_ | refine Agree.mix2 rfl ?_)), AE, ce, Le, hOE, E10⟩
      · refine ⟨_, rfl, ?_⟩
        first
        | (refine OPS.buildSlice rfl rfl rfl rfl (bsl_25_1_0 rfl) E04 ?_
           clear H; intro g83 w E046; clear E04
           have H := ((E046.drop (List.sublist_cons_self _ _)).drop (List.sublist_append_left _ _)).drop (List.sublist_cons_self _ _))
        | (refine OPS.buildSlice rfl rfl rfl rfl (bsl_25_1_0 rfl) E0 ?_
           clear H; intro g83 w E60; clear E0
           have E06 := E60.perm (List.Perm.swap _ _ _)
           clear E60
           have H := ((E06.drop (List.sublist_cons_self _ _)).drop (List.sublist_cons_self _ _)).drop (List.sublist_cons_self _ _))
        | (refine OPS.buildSlice rfl rfl rfl rfl (bsl_25_1_0 rfl) (E.toBelow hbw13) ?_
           clear H; intro g83 w E6; clear E
           have H := (E6.drop (List.sublist_cons_self _ _)).drop (List.sublist_cons_self _ _))
        refine OPS.nil ?_
        refine ⟨(by first | exact H | exact H.drop (List.sublist_cons_self _ _) | exact H.drop ((List.sublist_cons_self _ _).trans (List.sublist_cons_self _ _)) | exact H.drop ((List.sublist_cons_self _ _).trans ((List.sublist_cons_self _ _).trans (List.sublist_cons_self _ _))) | exact H.drop ((List.sublist_cons_self _ _).trans ((List.sublist_cons_self _ _).trans ((List.sublist_cons_self _ _).trans (List.sublist_cons_self _ _)))) | exact H.drop ((List.sublist_cons_self _ _).trans ((List.sublist_cons_self _ _).trans ((List.sublist_cons_self _ _).trans ((List.sublist_cons_self _ _).trans (List.sublist_cons_self _ _)))))), ?_⟩
        refine OPH.all [3] (by kernel_rfl) (by simp) rfl ?_
        intro i hi; simp only [List.mem_cons, List.not_mem_nil, or_false] at hi
        rcases hi with rfl
        · refine ⟨_, rfl, ?_⟩
          first
          | (refine OPS.appendE (m := R.length) (news := R.flatMap rideCells) (R := (⟨g83, 50, [I more.id, I more.rider, I more.sl, I more.sh, I more.el, I more.eh, Bo more.opn, .slice more.L.A more.L.l.length more.L.cap, .slice more.P.A more.P.l.length more.P.cap, I more.fw, I more.fp, I more.wh, I more.pl]⟩ :: ⟨g12, 27, [.slice HA hs.length hc, .slice RA rs.length rc, .slice A R.length cap, I bike, I kind]⟩ :: ⟨g11, 27, [.slice HA hs.length hc, .slice RA rs.length rc, .slice AB R.length cB, I bike, I kind]⟩ :: ⟨g5, 51, [I f, I t]⟩ :: ⟨g4, 50, rideCells more⟩ :: ⟨g3, 27, [.slice HA hs.length hc, .slice RA rs.length rc, .slice A R.length cap, I bike, I kind]⟩ :: LB)) rfl rfl rfl rfl rfl (sl_run rfl) rfl rfl (OwnS.mt (g := g78)) (rows_length rideCells_len R) (rowsFrom rideCells_len (hR.sh H).rows) (rowsOne (fun _ => rfl) R) (by omega) (by unfold maxLen; omega) E06 (by exact permBy fun f => by simp [I] <;> omega) ?_
             clear H; intro AE ce Le w hOE E046; clear E06
             have H := ((E046.drop (List.sublist_cons_self _ _)).drop (List.sublist_append_left _ _)).drop (List.sublist_cons_self _ _)
             rw [Nat.zero_add, List.nil_append] at hOE
             rw [show 0 + R.length = R.length from Nat.zero_add _])
          | (refine OPS.appendE (m := R.length) (news := R.flatMap rideCells) (R := (⟨g12, 27, [.slice HA hs.length hc, .slice RA rs.length rc, .slice A R.length cap, I bike, I kind]⟩ :: ⟨g11, 27, [.slice HA hs.length hc, .slice RA rs.length rc, .slice AB R.length cB, I bike, I kind]⟩ :: ⟨g5, 51, [I f, I t]⟩ :: ⟨g4, 50, rideCells more⟩ :: ⟨g3, 27, [.slice HA hs.length hc, .slice RA rs.length rc, .slice A R.length cap, I bike, I kind]⟩ :: LB)) rfl rfl rfl rfl rfl (sl_run rfl) rfl rfl (OwnS.mt (g := g78)) (rows_length rideCells_len R) (rowsFrom rideCells_len (hR.sh H).rows) (rowsOne (fun _ => rfl) R) (by omega) (by unfold maxLen; omega) E0 (by exact permBy fun f => by simp [I] <;> omega) ?_
             clear H; intro AE ce Le w hOE E04; clear E0
             have H := (E04.drop (List.sublist_append_left _ _)).drop (List.sublist_cons_self _ _)
             rw [Nat.zero_add, List.nil_append] at hOE
             rw [show 0 + R.length = R.length from Nat.zero_add _])
          refine OPS.nil ?_
          refine ⟨(by first | exact H | exact H.drop (List.sublist_cons_self _ _) | exact H.drop ((List.sublist_cons_self _ _).trans (List.sublist_cons_self _ _)) | exact H.drop ((List.sublist_cons_self _ _).trans ((List.sublist_cons_self _ _).trans (List.sublist_cons_self _ _))) | exact H.drop ((List.sublist_cons_self _ _).trans ((List.sublist_cons_self _ _).trans ((List.sublist_cons_self _ _).trans (List.sublist_cons_self _ _)))) | exact H.drop ((List.sublist_cons_self _ _).trans ((List.sublist_cons_self _ _).trans ((List.sublist_cons_self _ _).trans ((List.sublist_cons_self _ _).trans (List.sublist_cons_self _ _)))))), ?_⟩
          refine OPH.all [6] (by kernel_rfl) (by simp) rfl ?_
          intro i hi; simp only [List.mem_cons, List.not_mem_nil, or_false] at hi
          rcases hi with rfl
          · refine ⟨_, rfl, ?_⟩
            refine OPS.append (m := 1) (news := [I more.id, I more.rider, I more.sl, I more.sh, I more.el, I more.eh, Bo more.opn, .slice more.L.A more.L.l.length more.L.cap, .slice more.P.A more.P.l.length more.P.cap, I more.fw, I more.fp, I more.wh, I more.pl]) (R := (⟨g83, 50, [I more.id, I more.rider, I more.sl, I more.sh, I more.el, I more.eh, Bo more.opn, .slice more.L.A more.L.l.length more.L.cap, .slice more.P.A more.P.l.length more.P.cap, I more.fw, I more.fp, I more.wh, I more.pl]⟩ :: ⟨g12, 27, [.slice HA hs.length hc, .slice RA rs.length rc, .slice A R.length cap, I bike, I kind]⟩ :: ⟨g11, 27, [.slice HA hs.length hc, .slice RA rs.length rc, .slice AB R.length cB, I bike, I kind]⟩ :: ⟨g5, 51, [I f, I t]⟩ :: ⟨g4, 50, rideCells more⟩ :: ⟨g3, 27, [.slice HA hs.length hc, .slice RA rs.length rc, .slice A R.length cap, I bike, I kind]⟩ :: LB)) rfl rfl rfl rfl rfl (sl_run rfl) rfl rfl hOE rfl (src_own E046 0 rfl) rfl (by omega) (by unfold maxLen; omega) E046 (List.Perm.refl _) ?_
            clear H hOE; intro AE ce Le w hOE E7; clear E046
            have H := ((E7.drop (List.sublist_cons_self _ _)).drop (List.sublist_append_left _ _)).drop (List.sublist_cons_self _ _)
            refine OPS.nil ?_
            refine ⟨(by first | exact H | exact H.drop (List.sublist_cons_self _ _) | exact H.drop ((List.sublist_cons_self _ _).trans (List.sublist_cons_self _ _)) | exact H.drop ((List.sublist_cons_self _ _).trans ((List.sublist_cons_self _ _).trans (List.sublist_cons_self _ _))) | exact H.drop ((List.sublist_cons_self _ _).trans ((List.sublist_cons_self _ _).trans ((List.sublist_cons_self _ _).trans (List.sublist_cons_self _ _)))) | exact H.drop ((List.sublist_cons_self _ _).trans ((List.sublist_cons_self _ _).trans ((List.sublist_cons_self _ _).trans ((List.sublist_cons_self _ _).trans (List.sublist_cons_self _ _)))))), ?_⟩
            refine OPH.take 7 rfl rfl rfl rfl (by kernel_rfl) (by kernel_rfl) (by kernel_rfl) rfl (by first | exact H | exact H.drop (List.sublist_cons_self _ _) | exact H.drop ((List.sublist_cons_self _ _).trans (List.sublist_cons_self _ _)) | exact H.drop ((List.sublist_cons_self _ _).trans ((List.sublist_cons_self _ _).trans (List.sublist_cons_self _ _))) | exact H.drop ((List.sublist_cons_self _ _).trans ((List.sublist_cons_self _ _).trans ((List.sublist_cons_self _ _).trans (List.sublist_cons_self _ _)))) | exact H.drop ((List.sublist_cons_self _ _).trans ((List.sublist_cons_self _ _).trans ((List.sublist_cons_self _ _).trans ((List.sublist_cons_self _ _).trans (List.sublist_cons_self _ _)))))) (fun w H => Ev.fieldAddr (fld_run rfl) rfl) ?_
            refine OPH.all [8] (by kernel_rfl) (by simp) rfl ?_
            intro i hi; simp only [List.mem_cons, List.not_mem_nil, or_false] at hi
            rcases hi with rfl
            · refine ⟨_, rfl, ?_⟩
              refine OPS.store 1 _ rfl rfl rfl (size_run rfl) rfl (cS rfl) rfl rfl E7 rfl (by simp) ?_
              clear H; intro w E8; clear E7
              simp only [List.set_cons_zero, List.set_cons_succ, List.cons_append, List.nil_append, putL] at E8
              have E10 := E8.drop (List.sublist_cons_self _ _)
              have H := (E10.drop (List.sublist_append_left (_ :: _ :: _ :: _ :: _ :: LB) _)).drop (List.sublist_cons_self _ _)
              refine OPS.nil ?_
              refine ⟨(by first | exact H | exact H.drop (List.sublist_cons_self _ _) | exact H.drop ((List.sublist_cons_self _ _).trans (List.sublist_cons_self _ _)) | exact H.drop ((List.sublist_cons_self _ _).trans ((List.sublist_cons_self _ _).trans (List.sublist_cons_self _ _))) | exact H.drop ((List.sublist_cons_self _ _).trans ((List.sublist_cons_self _ _).trans ((List.sublist_cons_self _ _).trans (List.sublist_cons_self _ _)))) | exact H.drop ((List.sublist_cons_self _ _).trans ((List.sublist_cons_self _ _).trans ((List.sublist_cons_self _ _).trans ((List.sublist_cons_self _ _).trans (List.sublist_cons_self _ _)))))), ?_⟩
              refine OPH.done (by kernel_rfl) ?_
              exact ⟨(by repeat (first | exact Agree.refl _ _ | exact Agree.mix _ _ _ | refine Agree.upd rfl ?_ | refine Agree.mix2 rfl ?_)), AE, ce, Le, hOE, E10⟩
    · refine ⟨_, rfl, ?_⟩
      first
      | (refine OPS.buildSlice rfl rfl rfl rfl (bsl_25_1_0 rfl) E04 ?_
         clear H; intro g83 w E046; clear E04
         have H := ((E046.drop (List.sublist_cons_self _ _)).drop (List.sublist_append_left _ _)).drop (List.sublist_cons_self _ _))
      | (refine OPS.buildSlice rfl rfl rfl rfl (bsl_25_1_0 rfl) E0 ?_
         clear H; intro g83 w E60; clear E0
         have E06 := E60.perm (List.Perm.swap _ _ _)
         clear E60
         have H := ((E06.drop (List.sublist_cons_self _ _)).drop (List.sublist_cons_self _ _)).drop (List.sublist_cons_self _ _))
      | (refine OPS.buildSlice rfl rfl rfl rfl (bsl_25_1_0 rfl) (E.toBelow hbw13) ?_
         clear H; intro g83 w E6; clear E
         have H := (E6.drop (List.sublist_cons_self _ _)).drop (List.sublist_cons_self _ _))
      refine OPS.nil ?_
      refine ⟨(by first | exact H | exact H.drop (List.sublist_cons_self _ _) | exact H.drop ((List.sublist_cons_self _ _).trans (List.sublist_cons_self _ _)) | exact H.drop ((List.sublist_cons_self _ _).trans ((List.sublist_cons_self _ _).trans (List.sublist_cons_self _ _))) | exact H.drop ((List.sublist_cons_self _ _).trans ((List.sublist_cons_self _ _).trans ((List.sublist_cons_self _ _).trans (List.sublist_cons_self _ _)))) | exact H.drop ((List.sublist_cons_self _ _).trans ((List.sublist_cons_self _ _).trans ((List.sublist_cons_self _ _).trans ((List.sublist_cons_self _ _).trans (List.sublist_cons_self _ _)))))), ?_⟩
      refine OPH.all [0] (by kernel_rfl) (by simp) rfl ?_
      intro i hi; simp only [List.mem_cons, List.not_mem_nil, or_false] at hi
      rcases hi with rfl
      · refine ⟨_, rfl, ?_⟩
        first
        | (refine OPS.buildSlice rfl rfl rfl rfl (bsl_25_0_ (e := fun _ => .int .i64 0)) E6 ?_
           clear H; intro g78 w E06; clear E6
           have H := ((E06.drop (List.sublist_cons_self _ _)).drop (List.sublist_cons_self _ _)).drop (List.sublist_cons_self _ _))
        | (refine OPS.buildSlice rfl rfl rfl rfl (bsl_25_0_ (e := fun _ => .int .i64 0)) (E.toBelow hbw13) ?_
           clear H; intro g78 w E0; clear E
           have H := (E0.drop (List.sublist_cons_self _ _)).drop (List.sublist_cons_self _ _))
        refine OPS.nil ?_
        refine ⟨(by first | exact H | exact H.drop (List.sublist_cons_self _ _) | exact H.drop ((List.sublist_cons_self _ _).trans (List.sublist_cons_self _ _)) | exact H.drop ((List.sublist_cons_self _ _).trans ((List.sublist_cons_self _ _).trans (List.sublist_cons_self _ _))) | exact H.drop ((List.sublist_cons_self _ _).trans ((List.sublist_cons_self _ _).trans ((List.sublist_cons_self _ _).trans (List.sublist_cons_self _ _)))) | exact H.drop ((List.sublist_cons_self _ _).trans ((List.sublist_cons_self _ _).trans ((List.sublist_cons_self _ _).trans ((List.sublist_cons_self _ _).trans (List.sublist_cons_self _ _)))))), ?_⟩
        refine OPH.all [3] (by kernel_rfl) (by simp) rfl ?_
        intro i hi; simp only [List.mem_cons, List.not_mem_nil, or_false] at hi
        rcases hi with rfl
        · refine ⟨_, rfl, ?_⟩
          first
          | (refine OPS.appendE (m := R.length) (news := R.flatMap rideCells) (R := (⟨g83, 50, [I more.id, I more.rider, I more.sl, I more.sh, I more.el, I more.eh, Bo more.opn, .slice more.L.A more.L.l.length more.L.cap, .slice more.P.A more.P.l.length more.P.cap, I more.fw, I more.fp, I more.wh, I more.pl]⟩ :: ⟨g12, 27, [.slice HA hs.length hc, .slice RA rs.length rc, .slice A R.length cap, I bike, I kind]⟩ :: ⟨g11, 27, [.slice HA hs.length hc, .slice RA rs.length rc, .slice AB R.length cB, I bike, I kind]⟩ :: ⟨g5, 51, [I f, I t]⟩ :: ⟨g4, 50, rideCells more⟩ :: ⟨g3, 27, [.slice HA hs.length hc, .slice RA rs.length rc, .slice A R.length cap, I bike, I kind]⟩ :: LB)) rfl rfl rfl rfl rfl (sl_run rfl) rfl rfl (OwnS.mt (g := g78)) (rows_length rideCells_len R) (rowsFrom rideCells_len (hR.sh H).rows) (rowsOne (fun _ => rfl) R) (by omega) (by unfold maxLen; omega) E06 (by exact permBy fun f => by simp [I] <;> omega) ?_
             clear H; intro AE ce Le w hOE E046; clear E06
             have H := ((E046.drop (List.sublist_cons_self _ _)).drop (List.sublist_append_left _ _)).drop (List.sublist_cons_self _ _)
             rw [Nat.zero_add, List.nil_append] at hOE
             rw [show 0 + R.length = R.length from Nat.zero_add _])
          | (refine OPS.appendE (m := R.length) (news := R.flatMap rideCells) (R := (⟨g12, 27, [.slice HA hs.length hc, .slice RA rs.length rc, .slice A R.length cap, I bike, I kind]⟩ :: ⟨g11, 27, [.slice HA hs.length hc, .slice RA rs.length rc, .slice AB R.length cB, I bike, I kind]⟩ :: ⟨g5, 51, [I f, I t]⟩ :: ⟨g4, 50, rideCells more⟩ :: ⟨g3, 27, [.slice HA hs.length hc, .slice RA rs.length rc, .slice A R.length cap, I bike, I kind]⟩ :: LB)) rfl rfl rfl rfl rfl (sl_run rfl) rfl rfl (OwnS.mt (g := g78)) (rows_length rideCells_len R) (rowsFrom rideCells_len (hR.sh H).rows) (rowsOne (fun _ => rfl) R) (by omega) (by unfold maxLen; omega) E0 (by exact permBy fun f => by simp [I] <;> omega) ?_
             clear H; intro AE ce Le w hOE E04; clear E0
             have H := (E04.drop (List.sublist_append_left _ _)).drop (List.sublist_cons_self _ _)
             rw [Nat.zero_add, List.nil_append] at hOE
             rw [show 0 + R.length = R.length from Nat.zero_add _])
          refine OPS.nil ?_
          refine ⟨(by first | exact H | exact H.drop (List.sublist_cons_self _ _) | exact H.drop ((List.sublist_cons_self _ _).trans (List.sublist_cons_self _ _)) | exact H.drop ((List.sublist_cons_self _ _).trans ((List.sublist_cons_self _ _).trans (List.sublist_cons_self _ _))) | exact H.drop ((List.sublist_cons_self _ _).trans ((List.sublist_cons_self _ _).trans ((List.sublist_cons_self _ _).trans (List.sublist_cons_self _ _)))) | exact H.drop ((List.sublist_cons_self _ _).trans ((List.sublist_cons_self _ _).trans ((List.sublist_cons_self _ _).trans ((List.sublist_cons_self _ _).trans (List.sublist_cons_self _ _)))))), ?_⟩
          refine OPH.all [6] (by kernel_rfl) (by simp) rfl ?_
          intro i hi; simp only [List.mem_cons, List.not_mem_nil, or_false] at hi
          rcases hi with rfl
          · refine ⟨_, rfl, ?_⟩
            refine OPS.append (m := 1) (news := [I more.id, I more.rider, I more.sl, I more.sh, I more.el, I more.eh, Bo more.opn, .slice more.L.A more.L.l.length more.L.cap, .slice more.P.A more.P.l.length more.P.cap, I more.fw, I more.fp, I more.wh, I more.pl]) (R := (⟨g83, 50, [I more.id, I more.rider, I more.sl, I more.sh, I more.el, I more.eh, Bo more.opn, .slice more.L.A more.L.l.length more.L.cap, .slice more.P.A more.P.l.length more.P.cap, I more.fw, I more.fp, I more.wh, I more.pl]⟩ :: ⟨g12, 27, [.slice HA hs.length hc, .slice RA rs.length rc, .slice A R.length cap, I bike, I kind]⟩ :: ⟨g11, 27, [.slice HA hs.length hc, .slice RA rs.length rc, .slice AB R.length cB, I bike, I kind]⟩ :: ⟨g5, 51, [I f, I t]⟩ :: ⟨g4, 50, rideCells more⟩ :: ⟨g3, 27, [.slice HA hs.length hc, .slice RA rs.length rc, .slice A R.length cap, I bike, I kind]⟩ :: LB)) rfl rfl rfl rfl rfl (sl_run rfl) rfl rfl hOE rfl (src_own E046 0 rfl) rfl (by omega) (by unfold maxLen; omega) E046 (List.Perm.refl _) ?_
            clear H hOE; intro AE ce Le w hOE E7; clear E046
            have H := ((E7.drop (List.sublist_cons_self _ _)).drop (List.sublist_append_left _ _)).drop (List.sublist_cons_self _ _)
            refine OPS.nil ?_
            refine ⟨(by first | exact H | exact H.drop (List.sublist_cons_self _ _) | exact H.drop ((List.sublist_cons_self _ _).trans (List.sublist_cons_self _ _)) | exact H.drop ((List.sublist_cons_self _ _).trans ((List.sublist_cons_self _ _).trans (List.sublist_cons_self _ _))) | exact H.drop ((List.sublist_cons_self _ _).trans ((List.sublist_cons_self _ _).trans ((List.sublist_cons_self _ _).trans (List.sublist_cons_self _ _)))) | exact H.drop ((List.sublist_cons_self _ _).trans ((List.sublist_cons_self _ _).trans ((List.sublist_cons_self _ _).trans ((List.sublist_cons_self _ _).trans (List.sublist_cons_self _ _)))))), ?_⟩
            refine OPH.take 7 rfl rfl rfl rfl (by kernel_rfl) (by kernel_rfl) (by kernel_rfl) rfl (by first | exact H | exact H.drop (List.sublist_cons_self _ _) | exact H.drop ((List.sublist_cons_self _ _).trans (List.sublist_cons_self _ _)) | exact H.drop ((List.sublist_cons_self _ _).trans ((List.sublist_cons_self _ _).trans (List.sublist_cons_self _ _))) | exact H.drop ((List.sublist_cons_self _ _).trans ((List.sublist_cons_self _ _).trans ((List.sublist_cons_self _ _).trans (List.sublist_cons_self _ _)))) | exact H.drop ((List.sublist_cons_self _ _).trans ((List.sublist_cons_self _ _).trans ((List.sublist_cons_self _ _).trans ((List.sublist_cons_self _ _).trans (List.sublist_cons_self _ _)))))) (fun w H => Ev.fieldAddr (fld_run rfl) rfl) ?_
            refine OPH.all [8] (by kernel_rfl) (by simp) rfl ?_
            intro i hi; simp only [List.mem_cons, List.not_mem_nil, or_false] at hi
            rcases hi with rfl
            · refine ⟨_, rfl, ?_⟩
              refine OPS.store 1 _ rfl rfl rfl (size_run rfl) rfl (cS rfl) rfl rfl E7 rfl (by simp) ?_
              clear H; intro w E8; clear E7
              simp only [List.set_cons_zero, List.set_cons_succ, List.cons_append, List.nil_append, putL] at E8
              have E10 := E8.drop (List.sublist_cons_self _ _)
              have H := (E10.drop (List.sublist_append_left (_ :: _ :: _ :: _ :: _ :: LB) _)).drop (List.sublist_cons_self _ _)
              refine OPS.nil ?_
              refine ⟨(by first | exact H | exact H.drop (List.sublist_cons_self _ _) | exact H.drop ((List.sublist_cons_self _ _).trans (List.sublist_cons_self _ _)) | exact H.drop ((List.sublist_cons_self _ _).trans ((List.sublist_cons_self _ _).trans (List.sublist_cons_self _ _))) | exact H.drop ((List.sublist_cons_self _ _).trans ((List.sublist_cons_self _ _).trans ((List.sublist_cons_self _ _).trans (List.sublist_cons_self _ _)))) | exact H.drop ((List.sublist_cons_self _ _).trans ((List.sublist_cons_self _ _).trans ((List.sublist_cons_self _ _).trans ((List.sublist_cons_self _ _).trans (List.sublist_cons_self _ _)))))), ?_⟩
              refine OPH.done (by kernel_rfl) ?_
              exact ⟨(by repeat (first | exact Agree.refl _ _ | exact Agree.mix _ _ _ | refine Agree.upd rfl ?_ | refine Agree.mix2 rfl ?_)), AE, ce, Le, hOE, E10⟩
  clear H
  rintro u w ⟨AE, ce, Le, hOE, H⟩
  clear E
  replace hOE : OwnS AE ce (R.length + 1) ((R ++ [more]).flatMap rideCells) 50 13 Le := by rw [List.flatMap_append, List.flatMap_cons, List.flatMap_nil, List.append_nil]; exact hOE
  have hlen : (R ++ [more]).length = R.length + 1 := by simp
  have hR3 : RidesAt w AE (R ++ [more]) := ⟨(hOE.rows (l := R ++ [more]) rideCells_len (by decide) H).1, fun r hr => by
    rcases List.mem_append.1 hr with hr | hr
    · exact (hR.each r hr).sh H
    · rw [List.mem_singleton.1 hr]; exact hM.sh H, by rw [hlen]; unfold maxLen; omega⟩
  have hR2 : RidesAt w AB R.reverse := ⟨(hOB.rows (R := [_, _, _, _, _]) (l := R.reverse) rideCells_len (by decide) (H.drop (List.sublist_append_left _ _))).1, fun r hr => (hR.each r (List.mem_reverse.1 hr)).sh H, by rw [List.length_reverse]; unfold maxLen; omega⟩
  simp only [List.cons_append, List.nil_append] at H
  refine WP.seq ?_
  have hof := lawOf HA RA AB hs rs R.reverse hc rc cB bike kind f t w (hW.sh H) hR2
  rw [List.length_reverse, qb1, qb2] at hof
  have hof2 := lawOf HA RA AE hs rs (R ++ [more]) hc rc ce bike kind f t w (hW.sh H) hR3
  rw [hlen] at hof2
  refine WP.region ?_
  refine OPS.val rfl rfl rfl ((by first | exact Ev.loadO 0 H rfl (agg_run rfl) (size_run rfl) (by first | assumption | rfl) rfl | exact Ev.loadO 1 H rfl (agg_run rfl) (size_run rfl) (by first | assumption | rfl) rfl | exact Ev.loadO 2 H rfl (agg_run rfl) (size_run rfl) (by first | assumption | rfl) rfl | exact Ev.loadO 3 H rfl (agg_run rfl) (size_run rfl) (by first | assumption | rfl) rfl | exact Ev.loadO 4 H rfl (agg_run rfl) (size_run rfl) (by first | assumption | rfl) rfl | exact Ev.loadO 5 H rfl (agg_run rfl) (size_run rfl) (by first | assumption | rfl) rfl | exact Ev.loadO 6 H rfl (agg_run rfl) (size_run rfl) (by first | assumption | rfl) rfl | (change Ev _ _ _ _ (Op.load 27 (Operand.tmp 11)) _; fail))) ?_
  refine OPS.val rfl rfl rfl (Ev.indexAddrA (arr_run rfl) (size_run rfl) rfl rfl rfl (by decide)) ?_
  refine OPS.val rfl rfl rfl (Ev.load1 (agg_run rfl) rfl (by first | exact H.ldL 0 rfl _ rfl | exact H.ldL 1 rfl _ rfl | exact H.ldL 2 rfl _ rfl | exact H.ldL 3 rfl _ rfl | exact H.ldL 4 rfl _ rfl | exact H.ldL 5 rfl _ rfl | exact H.ldL 6 rfl _ rfl | exact H.ldL 7 rfl _ rfl | exact H.ld0 (by assumption) | assumption | exact H.ldS (by assumption) (by assumption))) ?_
  refine OPS.val rfl rfl rfl (Ev.indexAddrA (arr_run rfl) (size_run rfl) rfl rfl rfl (by decide)) ?_
  refine OPS.val rfl rfl rfl (Ev.load1 (agg_run rfl) rfl (by first | exact H.ldL 0 rfl _ rfl | exact H.ldL 1 rfl _ rfl | exact H.ldL 2 rfl _ rfl | exact H.ldL 3 rfl _ rfl | exact H.ldL 4 rfl _ rfl | exact H.ldL 5 rfl _ rfl | exact H.ldL 6 rfl _ rfl | exact H.ldL 7 rfl _ rfl | exact H.ld0 (by assumption) | assumption | exact H.ldS (by assumption) (by assumption))) ?_
  refine OPS.call (d := some 92) rfl rfl rfl (EvC.func (fun_run rfl)) (hof) ?_
  rintro _ w ⟨rfl, hb⟩
  refine ⟨_, rfl, ?_⟩
  replace H := H.toBelow hb
  replace hR3 := hR3.below hb
  clear hb hof hof2
  have hof2 := lawOf HA RA AE hs rs (R ++ [more]) hc rc ce bike kind f t w (hW.sh H) hR3
  rw [hlen] at hof2
  refine OPS.val rfl rfl rfl (Ev.mvT rfl) ?_
  refine OPS.val rfl rfl rfl (Ev.extract rfl rfl) ?_
  refine OPS.val rfl rfl rfl (Ev.extract rfl rfl) ?_
  refine OPS.val rfl rfl rfl (Ev.asI rfl) ?_
  refine OPS.val rfl rfl rfl (Ev.asI rfl) ?_
  refine OPS.nil ?_
  refine WP.seq ?_
  refine WP.region ?_
  refine OPS.val rfl rfl rfl ((by first | exact Ev.loadO 0 H rfl (agg_run rfl) (size_run rfl) (by first | assumption | rfl) rfl | exact Ev.loadO 1 H rfl (agg_run rfl) (size_run rfl) (by first | assumption | rfl) rfl | exact Ev.loadO 2 H rfl (agg_run rfl) (size_run rfl) (by first | assumption | rfl) rfl | exact Ev.loadO 3 H rfl (agg_run rfl) (size_run rfl) (by first | assumption | rfl) rfl | exact Ev.loadO 4 H rfl (agg_run rfl) (size_run rfl) (by first | assumption | rfl) rfl | exact Ev.loadO 5 H rfl (agg_run rfl) (size_run rfl) (by first | assumption | rfl) rfl | exact Ev.loadO 6 H rfl (agg_run rfl) (size_run rfl) (by first | assumption | rfl) rfl | (change Ev _ _ _ _ (Op.load 27 (Operand.tmp 12)) _; fail))) ?_
  refine OPS.val rfl rfl rfl (Ev.indexAddrA (arr_run rfl) (size_run rfl) rfl rfl rfl (by decide)) ?_
  refine OPS.val rfl rfl rfl (Ev.load1 (agg_run rfl) rfl (by first | exact H.ldL 0 rfl _ rfl | exact H.ldL 1 rfl _ rfl | exact H.ldL 2 rfl _ rfl | exact H.ldL 3 rfl _ rfl | exact H.ldL 4 rfl _ rfl | exact H.ldL 5 rfl _ rfl | exact H.ldL 6 rfl _ rfl | exact H.ldL 7 rfl _ rfl | exact H.ld0 (by assumption) | assumption | exact H.ldS (by assumption) (by assumption))) ?_
  refine OPS.val rfl rfl rfl (Ev.indexAddrA (arr_run rfl) (size_run rfl) rfl rfl rfl (by decide)) ?_
  refine OPS.val rfl rfl rfl (Ev.load1 (agg_run rfl) rfl (by first | exact H.ldL 0 rfl _ rfl | exact H.ldL 1 rfl _ rfl | exact H.ldL 2 rfl _ rfl | exact H.ldL 3 rfl _ rfl | exact H.ldL 4 rfl _ rfl | exact H.ldL 5 rfl _ rfl | exact H.ldL 6 rfl _ rfl | exact H.ldL 7 rfl _ rfl | exact H.ld0 (by assumption) | assumption | exact H.ldS (by assumption) (by assumption))) ?_
  refine OPS.call (d := some 101) rfl rfl rfl (EvC.func (fun_run rfl)) (hof2) ?_
  rintro _ w ⟨rfl, hb⟩
  refine ⟨_, rfl, ?_⟩
  replace H := H.toBelow hb; clear hb hof2
  refine OPS.val rfl rfl rfl (Ev.mvT rfl) ?_
  refine OPS.val rfl rfl rfl (Ev.extract rfl rfl) ?_
  refine OPS.val rfl rfl rfl (Ev.extract rfl rfl) ?_
  refine OPS.val rfl rfl rfl (Ev.asI rfl) ?_
  refine OPS.val rfl rfl rfl (Ev.asI rfl) ?_
  refine OPS.nil ?_
  refine WP.seq ?_
  refine WP.region ?_
  refine OPS.val rfl rfl rfl (Ev.asB rfl) ?_
  refine OPS.nil ?_
  refine WP.seq ?_
  refine WP.seq ?_
  refine WP.region ?_
  refine OPS.val rfl rfl rfl (Ev.asI rfl) ?_
  refine OPS.nil ?_
  refine WP.block ?_
  refine WP.loop [18, 19, 104, 105, 106, 107, 108, 109, 110, 111, 112, 113, 114, 115, 116, 117, 118, 119, 120, 121, 122] (fun k e w' => ∃ (j : Nat), j + k = more.L.l.length ∧ e 19 = I j ∧ e 18 = Bo (otherB bike (more.L.l.take j)) ∧ SH w0 [] w' (⟨g12, 27, [.slice HA hs.length hc, .slice RA rs.length rc, .slice AE (R.length + 1) ce, I bike, I kind]⟩ :: ⟨g11, 27, [.slice HA hs.length hc, .slice RA rs.length rc, .slice AB R.length cB, I bike, I kind]⟩ :: ⟨g5, 51, [I f, I t]⟩ :: ⟨g4, 50, rideCells more⟩ :: ⟨g3, 27, [.slice HA hs.length hc, .slice RA rs.length rc, .slice A R.length cap, I bike, I kind]⟩ :: (LB ++ Le))) (more.L.l.length) (⟨0, by omega, rfl, rfl, H⟩) ?_
  clear H
  rintro k u w ⟨j, hk, h19, h18, H⟩
  refine WP.know (t := 19) h19 (WP.know (t := 18) h18 ?_)
  refine WP.seq ?_
  refine WP.seq ?_
  refine WP.region ?_
  refine OPS.val rfl rfl rfl (Ev.mvI rfl) ?_
  refine OPS.val rfl rfl rfl (Ev.fieldAddr (fld_run rfl) rfl) ?_
  refine OPS.val rfl rfl rfl (Ev.load1 (agg_run rfl) rfl (by first | exact H.ldL 0 rfl _ rfl | exact H.ldL 1 rfl _ rfl | exact H.ldL 2 rfl _ rfl | exact H.ldL 3 rfl _ rfl | exact H.ldL 4 rfl _ rfl | exact H.ldL 5 rfl _ rfl | exact H.ldL 6 rfl _ rfl | exact H.ldL 7 rfl _ rfl | exact H.ld0 (by assumption) | assumption | exact H.ldS (by assumption) (by assumption))) ?_
  refine OPS.val rfl rfl rfl (Ev.len (el_run rfl) rfl) ?_
  refine OPS.val rfl rfl rfl (Ev.lss rfl rfl) ?_
  refine OPS.nil ?_
  refine WP.cond rfl (fun hc18 => ?_) (fun hc18 => ?_)
  · have hlt : j < more.L.l.length := by simpa using hc18
    obtain ⟨b2, o2, hb2, hcy⟩ := hM.legs j hlt
    have hcb := hcy.1
    have hot := otherB_take (bike := bike) hlt
    have hmc : rideCells more = [I more.id, I more.rider, I more.sl, I more.sh, I more.el, I more.eh, Bo more.opn, .slice (some ⟨b2, o2, none⟩) more.L.l.length more.L.cap, .slice more.P.A more.P.l.length more.P.cap, I more.fw, I more.fp, I more.wh, I more.pl] := by rw [← hb2]; rfl
    rw [hmc] at H
    refine WP.skip ?_
    refine WP.seq ?_
    refine WP.block ?_
    refine WP.rstill mixed (by kernel_rfl) H ?_
    clear H; intro w hbw20 H
    refine OPS.val rfl rfl rfl (Ev.mvB rfl) ?_
    refine OPS.val rfl rfl rfl (Ev.mvB rfl) ?_
    refine OPS.gval rfl rfl rfl rfl rfl (fun hg => Ev.fieldAddr (fld_run rfl) (by first | rfl | exact gvE hg rfl)) ?_
    refine OPS.gval rfl rfl rfl rfl rfl (fun hg => Ev.load1 (agg_run rfl) (by first | rfl | exact gvE hg rfl) (by first | exact H.ldL 0 rfl _ rfl | exact H.ldL 1 rfl _ rfl | exact H.ldL 2 rfl _ rfl | exact H.ldL 3 rfl _ rfl | exact H.ldL 4 rfl _ rfl | exact H.ldL 5 rfl _ rfl | exact H.ldL 6 rfl _ rfl | exact H.ldL 7 rfl _ rfl | exact H.ld0 (by assumption) | assumption | exact H.ldS (by assumption) (by assumption))) ?_
    refine OPS.gval rfl rfl rfl rfl rfl (fun hg => Ev.mvI (by first | rfl | exact gvE hg rfl)) ?_
    refine OPS.gval rfl rfl rfl rfl rfl (fun hg => (by first | exact Ev.indexAddr1 (el_run rfl) (size_run rfl) (by first | rfl | exact gvE hg rfl) (by first | rfl | exact gvE hg rfl) rfl (by omega) | exact Ev.indexAddr (el_run rfl) (size_run rfl) (by first | rfl | exact gvE hg rfl) (by first | rfl | exact gvE hg rfl) rfl (by omega))) ?_
    refine OPS.gval rfl rfl rfl rfl rfl (fun hg => Ev.fieldAddr (fld_run rfl) (by first | rfl | exact gvE hg rfl)) ?_
    refine OPS.gval rfl rfl rfl rfl rfl (fun hg => Ev.load1 (agg_run rfl) (by first | rfl | exact gvE hg rfl) (by first | exact H.ldL 0 rfl _ rfl | exact H.ldL 1 rfl _ rfl | exact H.ldL 2 rfl _ rfl | exact H.ldL 3 rfl _ rfl | exact H.ldL 4 rfl _ rfl | exact H.ldL 5 rfl _ rfl | exact H.ldL 6 rfl _ rfl | exact H.ldL 7 rfl _ rfl | exact H.ld0 (by assumption) | assumption | exact H.ldS (by assumption) (by assumption))) ?_
    refine OPS.gval rfl rfl rfl rfl rfl (fun hg => Ev.fieldAddr (fld_run rfl) (by first | rfl | exact gvE hg rfl)) ?_
    refine OPS.gval rfl rfl rfl rfl rfl (fun hg => Ev.load1 (agg_run rfl) (by first | rfl | exact gvE hg rfl) (by first | exact H.ldL 0 rfl _ rfl | exact H.ldL 1 rfl _ rfl | exact H.ldL 2 rfl _ rfl | exact H.ldL 3 rfl _ rfl | exact H.ldL 4 rfl _ rfl | exact H.ldL 5 rfl _ rfl | exact H.ldL 6 rfl _ rfl | exact H.ldL 7 rfl _ rfl | exact H.ld0 (by assumption) | assumption | exact H.ldS (by assumption) (by assumption))) ?_
    refine OPS.gval rfl rfl rfl rfl rfl (fun hg => Ev.neq (by first | rfl | exact gvE hg rfl) (by first | rfl | exact gvE hg rfl)) ?_
    refine OPS.val rfl rfl rfl ((by first | exact Ev.pickOr rfl rfl rfl | exact Ev.pickAnd rfl rfl rfl)) ?_
    refine OPS.val rfl rfl rfl (Ev.asB rfl) ?_
    refine OPS.nil_s ?_
    refine WP.region ?_
    refine OPS.val rfl rfl rfl (Ev.mvI rfl) ?_
    refine OPS.val rfl rfl rfl (Ev.add rfl rfl (by unfold fits; omega)) ?_
    refine OPS.val rfl rfl rfl (Ev.asI rfl) ?_
    refine OPS.nil ?_
    rw [← hmc] at H
    exact ⟨(by repeat (first | exact Agree.refl _ _ | exact Agree.mix _ _ _ | refine Agree.upd rfl ?_ | refine Agree.mix2 rfl ?_)), k - 1, by omega, j + 1, by omega, rfl, (by rw [hot]; rfl), H⟩
  refine WP.exit ?_
  refine XB.hit ?_
  refine WP.seq ?_
  refine WP.seq ?_
  refine WP.region ?_
  refine OPS.val rfl rfl rfl (Ev.mvI rfl) ?_
  refine OPS.val rfl rfl rfl (Ev.neq rfl rfl) ?_
  refine OPS.val rfl rfl rfl (Ev.mvB rfl) ?_
  refine OPS.gval rfl rfl rfl rfl rfl (fun hg => Ev.mvI (by first | rfl | exact gvE hg rfl)) ?_
  refine OPS.gval rfl rfl rfl rfl rfl (fun hg => Ev.neq (by first | rfl | exact gvE hg rfl) (by first | rfl | exact gvE hg rfl)) ?_
  refine OPS.val rfl rfl rfl ((by first | exact Ev.pickOr rfl rfl rfl | exact Ev.pickAnd rfl rfl rfl)) ?_
  refine OPS.val rfl rfl rfl (Ev.mvB rfl) ?_
  refine OPS.gval rfl rfl rfl rfl rfl (fun hg => Ev.mvI (by first | rfl | exact gvE hg rfl)) ?_
  refine OPS.gval rfl rfl rfl rfl rfl (fun hg => Ev.mvI (by first | rfl | exact gvE hg rfl)) ?_
  refine OPS.gval rfl rfl rfl rfl rfl (fun hg => Ev.neq (by first | rfl | exact gvE hg rfl) (by first | rfl | exact gvE hg rfl)) ?_
  refine OPS.val rfl rfl rfl ((by first | exact Ev.pickOr rfl rfl rfl | exact Ev.pickAnd rfl rfl rfl)) ?_
  refine OPS.val rfl rfl rfl (Ev.mvB rfl) ?_
  refine OPS.gval rfl rfl rfl rfl rfl (fun hg => Ev.mvI (by first | rfl | exact gvE hg rfl)) ?_
  refine OPS.gval rfl rfl rfl rfl rfl (fun hg => Ev.mvI (by first | rfl | exact gvE hg rfl)) ?_
  refine OPS.gval rfl rfl rfl rfl rfl (fun hg => Ev.lss (by first | rfl | exact gvE hg rfl) (by first | rfl | exact gvE hg rfl)) ?_
  refine OPS.val rfl rfl rfl ((by first | exact Ev.pickOr rfl rfl rfl | exact Ev.pickAnd rfl rfl rfl)) ?_
  refine OPS.nil ?_
  refine WP.cond rfl (fun hc21 => ?_) (fun hc21 => ?_)
  · have hF : False := by
      simp at hc21
      omega
    refine WP.seq ?_
    refine WP.region ?_
    refine OPS.val rfl rfl rfl (Ev.asB rfl) ?_
    refine OPS.nil ?_
    refine WP.ret ⟨_, rfl, ?_⟩
    exact hF.elim
  refine WP.skip ?_
  refine WP.seq ?_
  refine WP.region ?_
  refine OPS.val rfl rfl rfl (Ev.mvI rfl) ?_
  refine OPS.val rfl rfl rfl (Ev.neq rfl rfl) ?_
  refine OPS.val rfl rfl rfl (Ev.mvB rfl) ?_
  refine OPS.gval rfl rfl rfl rfl rfl (fun hg => Ev.mvI (by first | rfl | exact gvE hg rfl)) ?_
  refine OPS.gval rfl rfl rfl rfl rfl (fun hg => Ev.mvI (by first | rfl | exact gvE hg rfl)) ?_
  refine OPS.gval rfl rfl rfl rfl rfl (fun hg => Ev.geq (by first | rfl | exact gvE hg rfl) (by first | rfl | exact gvE hg rfl)) ?_
  refine OPS.gval rfl rfl rfl rfl rfl (fun hg => Ev.mvB (by first | rfl | exact gvE hg rfl)) ?_
  refine OPS.gvalN rfl rfl (GB.g rfl) rfl rfl (fun hg => Ev.mvB (by first | rfl | exact gvE hg rfl)) ?_
  refine OPS.gvalN rfl rfl (GB.g rfl) rfl rfl (fun hg => Ev.not (by first | rfl | exact gvE hg rfl)) ?_
  refine OPS.gvalN rfl rfl (GB.g rfl) rfl rfl (fun hg => Ev.mvB (by first | rfl | exact gvE hg rfl)) ?_
  refine OPS.gvalN rfl rfl (GB.g rfl) rfl rfl (fun hg => Ev.mvI (by first | rfl | exact gvE hg rfl)) ?_
  refine OPS.gvalN rfl rfl (GB.g rfl) rfl rfl (fun hg => Ev.mvI (by first | rfl | exact gvE hg rfl)) ?_
  refine OPS.gvalN rfl rfl (GB.g rfl) rfl rfl (fun hg => Ev.eql (by first | rfl | exact gvE hg rfl) (by first | rfl | exact gvE hg rfl)) ?_
  refine OPS.gvalN rfl rfl (GB.g rfl) rfl rfl (fun hg => (by first | exact Ev.pickAnd2 (beqT hg) (gvE hg rfl) rfl rfl | exact Ev.pickOr2 (beqT hg) (gvE hg rfl) rfl rfl)) ?_
  refine OPS.gval rfl rfl rfl rfl rfl (fun hg => (by first | exact Ev.pickAnd2 (beqT hg) (gvE hg rfl) rfl rfl | exact Ev.pickOr2 (beqT hg) (gvE hg rfl) rfl rfl)) ?_
  refine OPS.val rfl rfl rfl ((by first | exact Ev.pickOr rfl rfl rfl | exact Ev.pickAnd rfl rfl rfl)) ?_
  refine OPS.val rfl rfl rfl (Ev.mvB rfl) ?_
  refine OPS.gcall0 (f := 11) (lawAwake w) (fun _ _ h => h) rfl rfl rfl rfl rfl (fun hg => (EvC.func (fun_run rfl))) ?_
  intro w hbc; replace H := H.toBelow hbc
  refine OPS.val rfl rfl rfl ((by first | exact Ev.pickOr rfl rfl rfl | exact Ev.pickAnd rfl rfl rfl)) ?_
  refine OPS.val rfl rfl rfl (Ev.asB rfl) ?_
  refine OPS.nil ?_
  refine WP.ret ⟨_, rfl, ?_⟩
  have hj : j = more.L.l.length := by simp at hc18; omega
  refine ⟨ret_true rfl ?_, H.below⟩
  rw [hj, List.take_length]
  by_cases hw2 : ofErr hs rs (R ++ [more]) bike kind f t = 0
  · obtain ⟨g1, g2⟩ := grow_with he hw2
    cases ho : otherB bike more.L.l with
    | false => simp [hw2, g1]
    | true => have := g2 (otherB_ok ho)
              simp [hw2, this]
  · simp [hw2]
theorem lawGrowsAll (HA RA A : Option Addr) (hs rs : List Int) (R : List Ride) (more : Ride) (hc rc cap : Nat) (bike kind f t : Int) (w0 : World) (hW : WearAt w0 HA RA hs rs) (hR : RidesAt w0 A R) (hM : RideAt w0 more) :
    Calls Try.prog 8 #[.agg (useL HA RA A hs.length hc rs.length rc R.length cap bike kind).toArray, .agg (rideCells more).toArray, .agg #[I f, I t]] w0 fun e w' => e = .returned (.bool true) ∧ Below w0.heap.size w0 w' := by
  cases hno : (!fewU hs rs R || decide ((20 : Int) < (R.length : Int))) with
  | true => exact lawGrowsNo HA RA A hs rs R more hc rc cap bike kind f t w0 hW hR hno
  | false => exact lawGrows HA RA A hs rs R more hc rc cap bike kind f t w0 hW hR hM hno
end Go.Proofs.Ytdlfadbdchjinaa
