/-
  Walks: the reference's unsafe, Safe, next.
-/
import Derived.Test.YtmkgfgnpgoegcaaT20
set_option linter.all false
namespace Go.Proofs.Ytmkgfgnpgoegcaa
open Go Go.W Go.RowKit

theorem TblOk.tblErr {r c : Int} {zs : List Int} (h : TblOk r c zs) : tblErr r c zs = 0 :=
  tblErr_ok h.rng h.len fun k hk => by have := h.cells k hk; simp [cellBad]; omega
theorem TblOk.hasNeg {r c : Int} {zs : List Int} (h : TblOk r c zs) : hasNeg zs = false := hasNeg_false fun k hk _ => (h.cells k hk).1
theorem TblOk.refErr {r c : Int} {zs : List Int} (h : TblOk r c zs) : refErr r c zs zs.length = 0 := by
  have := h.sum
  simp [Proofs.Ytmkgfgnpgoegcaa.refErr, h.tblErr, h.hasNeg]; omega
theorem TblOk.rngErr {r c : Int} {zs : List Int} (h : TblOk r c zs) {k : Nat} (hk : k < zs.length) : rngErr r c zs zs.length k = 0 := by
  rw [rngErr_ref, if_neg (by simp [h.refErr]), if_neg (by omega)]
/-- unsafe, over an interval Sp -/
def NarrowG (Sp : Nat → Int → Int → Prop) (hid : List Bool) (width : Int) (k : Nat) : Prop := hid.getD k false = true ∧ ∃ lo hi, Sp k lo hi ∧ hi - lo < width
def WideG (Sp : Nat → Int → Int → Prop) (hid : List Bool) (width : Int) (k : Nat) : Prop := hid.getD k false = false ∨ ∃ lo hi, Sp k lo hi ∧ ¬ hi - lo < width
def UnsafeG (Sp : Nat → Int → Int → Prop) (hid : List Bool) (width x : Int) : Prop :=
  (x = -1 ∧ ∀ k, k < hid.length → WideG Sp hid width k) ∨ ∃ k : Nat, x = k ∧ k < hid.length ∧ NarrowG Sp hid width k ∧ ∀ j, j < k → WideG Sp hid width j
theorem UnsafeG.neg {Sp : Nat → Int → Int → Prop} {hid : List Bool} {width x : Int} (h : UnsafeG Sp hid width x) : x = -1 ∨ 0 ≤ x := by
  rcases h with ⟨rfl, _⟩ | ⟨k, rfl, _⟩
  · exact .inl rfl
  · exact .inr (by omega)
def RSp (c : Int) (zs : List Int) (hid : List Bool) (k : Nat) (lo hi : Int) : Prop := ∃ cn : Nat, c = cn ∧ RefSpan cn zs hid k lo hi
theorem RefSpan.bd {c k : Nat} {zs : List Int} {hid : List Bool} {lo hi : Int} (hZ : ZsOk zs) (hk : k < zs.length) (h : RefSpan c zs hid k lo hi) : 0 ≤ lo ∧ lo ≤ hi ∧ hi ≤ 200000 := by
  have hx := hZ k hk
  have e : zs.getD k 0 = zs[k] := by simp [hk]
  unfold RefSpan at h
  rw [e] at h
  split at h
  · omega
  · obtain ⟨a, b, _, _, h1, h2, h3, h4, h5, h6⟩ := h
    omega

set_option maxHeartbeats 400000 in
theorem refUnsafe (r c width : Int) (A B : Option Addr) (zs : List Int) (hid : List Bool) (cap cap2 : Nat) (w0 : World) (hT : TblOk r c zs) (hh : hid.length = zs.length) (hz : IntsAt w0 A zs) (hb : BoolsAt w0 B hid) :
    Calls Try.prog 28 #[.agg #[I r, I c, .slice A zs.length cap], .slice B hid.length cap2, I width] w0
      fun e w' => ∃ x : Int, e = .returned (I x) ∧ UnsafeG (RSp c zs hid) hid width x ∧ Below w0.heap.size w0 w' := by
  have H := SH.refl w0
  have hbd := mul_bd hT.rng
  have hlen := hT.len
  have hml : zs.length ≤ maxLen := by unfold maxLen; omega
  have hml2 : hid.length ≤ maxLen := by unfold maxLen; omega
  refine Calls.ofWP Try.func28 rfl Try.results28 Try.ntmps28 rfl ?_
  refine WP.seq ?_
  refine WP.region ?_
  refine OPS.box rfl rfl rfl rfl (cA rfl) H ?_
  clear H; intro g3 w H
  refine OPS.val rfl rfl rfl (Ev.asI rfl) ?_
  refine OPS.nil ?_
  refine WP.seq ?_
  refine WP.seq ?_
  refine WP.region ?_
  refine OPS.val rfl rfl rfl (Ev.asI rfl) ?_
  refine OPS.nil ?_
  refine WP.block ?_
  refine WP.loop [6, 7, 8, 9, 10, 11, 12, 13, 14, 15, 16, 17, 18, 19, 20, 21, 22, 23, 24, 25, 26, 27, 28, 29, 30, 31, 32, 33, 34] (fun k e w' => ∃ (j : Nat), j + k = hid.length ∧ e 7 = I j ∧ (∀ i, i < j → WideG (RSp c zs hid) hid width i) ∧ SH w0 [] w' [⟨g3, 24, [I r, I c, .slice A zs.length cap]⟩]) (hid.length) (⟨0, by omega, rfl, fun i hi => absurd hi (by omega), H⟩) ?_
  clear H
  rintro k u w ⟨j, hk, h7, hall, H⟩
  refine WP.know (t := 7) h7 ?_
  refine WP.seq ?_
  refine WP.seq ?_
  refine WP.region ?_
  refine OPS.val rfl rfl rfl (Ev.mvI rfl) ?_
  refine OPS.val rfl rfl rfl (Ev.mvS rfl) ?_
  refine OPS.val rfl rfl rfl (Ev.len (el_run rfl) rfl) ?_
  refine OPS.val rfl rfl rfl (Ev.lss rfl rfl) ?_
  refine OPS.nil ?_
  refine WP.cond rfl (fun hc2 => ?_) (fun hc2 => ?_)
  · have hlt : j < hid.length := by simpa using hc2
    have hlt2 : j < zs.length := by omega
    obtain ⟨b2, o2, rfl, hd⟩ := hb j hlt
    refine WP.skip ?_
    refine WP.seq ?_
    refine WP.block ?_
    refine WP.seq ?_
    refine WP.region ?_
    refine OPS.val rfl rfl rfl (Ev.mvS rfl) ?_
    refine OPS.val rfl rfl rfl (Ev.mvI rfl) ?_
    refine OPS.val rfl rfl rfl ((by first | exact Ev.indexAddr1 (el_run rfl) (size_run rfl) rfl rfl rfl (by omega) | exact Ev.indexAddr (el_run rfl) (size_run rfl) rfl rfl rfl (by omega))) ?_
    refine OPS.val rfl rfl rfl (Ev.load1 (agg_run rfl) rfl (by first | exact H.ldL 0 rfl _ rfl | exact H.ldL 1 rfl _ rfl | exact H.ldL 2 rfl _ rfl | exact H.ldL 3 rfl _ rfl | exact H.ldL 4 rfl _ rfl | exact H.ldL 5 rfl _ rfl | exact H.ldL 6 rfl _ rfl | exact H.ldL 7 rfl _ rfl | exact H.ld0 (by assumption) | assumption | exact H.ldS (by assumption) (by assumption))) ?_
    refine OPS.nil ?_
    refine WP.cond rfl (fun hc4 => ?_) (fun hc4 => ?_)
    · refine WP.seq ?_
      refine WP.region ?_
      refine OPS.val rfl rfl rfl ((by first | exact Ev.loadO 0 H rfl (agg_run rfl) (size_run rfl) (by first | assumption | rfl) rfl | exact Ev.loadO 1 H rfl (agg_run rfl) (size_run rfl) (by first | assumption | rfl) rfl | exact Ev.loadO 2 H rfl (agg_run rfl) (size_run rfl) (by first | assumption | rfl) rfl | exact Ev.loadO 3 H rfl (agg_run rfl) (size_run rfl) (by first | assumption | rfl) rfl | exact Ev.loadO 4 H rfl (agg_run rfl) (size_run rfl) (by first | assumption | rfl) rfl | exact Ev.loadO 5 H rfl (agg_run rfl) (size_run rfl) (by first | assumption | rfl) rfl | exact Ev.loadO 6 H rfl (agg_run rfl) (size_run rfl) (by first | assumption | rfl) rfl | fail)) ?_
      refine OPS.val rfl rfl rfl (Ev.mvS rfl) ?_
      refine OPS.val rfl rfl rfl (Ev.mvI rfl) ?_
      refine OPS.call (d := some 24) rfl rfl rfl (EvC.func (fun_run rfl)) (refRange r c j A (some ⟨b2, o2, none⟩) zs hid cap cap2 w (hz.sh H) (hb.sh H) hml hml2) ?_
      rintro _ w ⟨lo, hi, er, rfl, hR, Hc⟩
      refine ⟨_, rfl, ?_⟩
      replace H := H.toBelow Hc
      clear Hc
      obtain ⟨_, _, k2, cn, hcn, hkj, _, hS⟩ := hR.2.2 (by rw [hR.1, hh]; exact hT.rngErr hlt2)
      obtain rfl : k2 = j := by omega
      have hbs := hS.bd hT.cells hlt2
      refine OPS.val rfl rfl rfl (Ev.mvT rfl) ?_
      refine OPS.val rfl rfl rfl (Ev.extract rfl rfl) ?_
      refine OPS.val rfl rfl rfl (Ev.extract rfl rfl) ?_
      refine OPS.alloc rfl rfl rfl rfl (zero_run rfl) rfl H ?_
      clear H; intro g8 w H
      first | refine OPS.store 0 _ rfl rfl rfl (size_run rfl) rfl (cA rfl) rfl rfl H rfl (by simp) ?_ | refine OPS.store 1 _ rfl rfl rfl (size_run rfl) rfl (cA rfl) rfl rfl H rfl (by simp) ?_ | refine OPS.store 2 _ rfl rfl rfl (size_run rfl) rfl (cA rfl) rfl rfl H rfl (by simp) ?_ | refine OPS.store 3 _ rfl rfl rfl (size_run rfl) rfl (cA rfl) rfl rfl H rfl (by simp) ?_ | refine OPS.store 4 _ rfl rfl rfl (size_run rfl) rfl (cA rfl) rfl rfl H rfl (by simp) ?_ | refine OPS.store 5 _ rfl rfl rfl (size_run rfl) rfl (cA rfl) rfl rfl H rfl (by simp) ?_ | refine OPS.store 6 _ rfl rfl rfl (size_run rfl) rfl (cA rfl) rfl rfl H rfl (by simp) ?_ | refine OPS.store 7 _ rfl rfl rfl (size_run rfl) rfl (cA rfl) rfl rfl H rfl (by simp) ?_ | refine OPS.store 8 _ rfl rfl rfl (size_run rfl) rfl (cA rfl) rfl rfl H rfl (by simp) ?_
      clear H; intro w H; simp only [List.set_cons_zero, List.set_cons_succ, putL, Nat.zero_add] at H
      refine OPS.val rfl rfl rfl (Ev.asI rfl) ?_
      refine OPS.nil ?_
      refine WP.seq ?_
      refine WP.region ?_
      refine OPS.val rfl rfl rfl (Ev.fieldAddr (fld_run rfl) rfl) ?_
      refine OPS.val rfl rfl rfl (Ev.load1 (agg_run rfl) rfl (by first | exact H.ldL 0 rfl _ rfl | exact H.ldL 1 rfl _ rfl | exact H.ldL 2 rfl _ rfl | exact H.ldL 3 rfl _ rfl | exact H.ldL 4 rfl _ rfl | exact H.ldL 5 rfl _ rfl | exact H.ldL 6 rfl _ rfl | exact H.ldL 7 rfl _ rfl | exact H.ld0 (by assumption) | assumption | exact H.ldS (by assumption) (by assumption))) ?_
      refine OPS.val rfl rfl rfl (Ev.fieldAddr (fld_run rfl) rfl) ?_
      refine OPS.val rfl rfl rfl (Ev.load1 (agg_run rfl) rfl (by first | exact H.ldL 0 rfl _ rfl | exact H.ldL 1 rfl _ rfl | exact H.ldL 2 rfl _ rfl | exact H.ldL 3 rfl _ rfl | exact H.ldL 4 rfl _ rfl | exact H.ldL 5 rfl _ rfl | exact H.ldL 6 rfl _ rfl | exact H.ldL 7 rfl _ rfl | exact H.ld0 (by assumption) | assumption | exact H.ldS (by assumption) (by assumption))) ?_
      refine OPS.val rfl rfl rfl (Ev.sub rfl rfl (by unfold fits; omega)) ?_
      refine OPS.val rfl rfl rfl (Ev.mvI rfl) ?_
      refine OPS.val rfl rfl rfl (Ev.lss rfl rfl) ?_
      refine OPS.nil ?_
      refine WP.cond rfl (fun hc6 => ?_) (fun hc6 => ?_)
      · refine WP.seq ?_
        refine WP.region ?_
        refine OPS.val rfl rfl rfl (Ev.mvI rfl) ?_
        refine OPS.val rfl rfl rfl (Ev.asI rfl) ?_
        refine OPS.nil ?_
        refine WP.ret ⟨_, rfl, ?_⟩
        refine ⟨k2, rfl, .inr ⟨k2, rfl, hlt, ⟨by simp [hlt]; exact hc4, lo, hi, ⟨cn, hcn, hS⟩, by simpa using hc6⟩, hall⟩, H.below⟩
      refine WP.skip ?_
      refine WP.region ?_
      refine OPS.val rfl rfl rfl (Ev.mvI rfl) ?_
      refine OPS.val rfl rfl rfl (Ev.add rfl rfl (by unfold fits; omega)) ?_
      refine OPS.val rfl rfl rfl (Ev.asI rfl) ?_
      refine OPS.nil ?_
      first
      | refine ⟨(by repeat (first | exact Agree.refl _ _ | exact Agree.mix _ _ _ | refine Agree.upd rfl ?_ | refine Agree.mix2 rfl ?_)), k - 1, by omega, k2 + 1, by omega, rfl, fun i hij2 => ?_, H.reidx [1] (by decide) rfl⟩
        by_cases hij : i < k2
        · exact hall i hij
        · obtain rfl : i = k2 := by omega
          exact .inr ⟨lo, hi, ⟨cn, hcn, hS⟩, by simpa using hc6⟩
      | refine ⟨(by repeat (first | exact Agree.refl _ _ | exact Agree.mix _ _ _ | refine Agree.upd rfl ?_ | refine Agree.mix2 rfl ?_)), k - 1, by omega, j + 1, by omega, rfl, fun i hij2 => ?_, H⟩
        by_cases hij : i < j
        · exact hall i hij
        · obtain rfl : i = j := by omega
          exact .inl (by simp [hlt]; exact hc4)
    refine WP.skip ?_
    refine WP.region ?_
    refine OPS.val rfl rfl rfl (Ev.mvI rfl) ?_
    refine OPS.val rfl rfl rfl (Ev.add rfl rfl (by unfold fits; omega)) ?_
    refine OPS.val rfl rfl rfl (Ev.asI rfl) ?_
    refine OPS.nil ?_
    first
    | refine ⟨(by repeat (first | exact Agree.refl _ _ | exact Agree.mix _ _ _ | refine Agree.upd rfl ?_ | refine Agree.mix2 rfl ?_)), k - 1, by omega, k2 + 1, by omega, rfl, fun i hij2 => ?_, H.reidx [1] (by decide) rfl⟩
      by_cases hij : i < k2
      · exact hall i hij
      · obtain rfl : i = k2 := by omega
        exact .inr ⟨lo, hi, ⟨cn, hcn, hS⟩, by simpa using hc6⟩
    | refine ⟨(by repeat (first | exact Agree.refl _ _ | exact Agree.mix _ _ _ | refine Agree.upd rfl ?_ | refine Agree.mix2 rfl ?_)), k - 1, by omega, j + 1, by omega, rfl, fun i hij2 => ?_, H⟩
      by_cases hij : i < j
      · exact hall i hij
      · obtain rfl : i = j := by omega
        exact .inl (by simp [hlt]; exact hc4)
  refine WP.exit ?_
  refine XB.hit ?_
  refine WP.seq ?_
  refine WP.region ?_
  refine OPS.val rfl rfl rfl (Ev.asI rfl) ?_
  refine OPS.nil ?_
  refine WP.ret ⟨_, rfl, ?_⟩
  have hj : j = hid.length := by simp at hc2; omega
  subst hj
  exact ⟨-1, rfl, .inl ⟨rfl, hall⟩, H.below⟩

def SafeG (r c : Int) (zs : List Int) (hid : List Bool) (width : Int) (b : Bool) : Prop :=
  (refErr r c zs hid.length ≠ 0 ∧ b = false) ∨ (refErr r c zs hid.length = 0 ∧ TblOk r c zs ∧ hid.length = zs.length ∧ ∃ x, UnsafeG (RSp c zs hid) hid width x ∧ b = decide (x < 0))
set_option maxHeartbeats 400000 in
theorem refSafe (r c width : Int) (A B : Option Addr) (zs : List Int) (hid : List Bool) (cap cap2 : Nat) (w0 : World) (hz : IntsAt w0 A zs) (hb : BoolsAt w0 B hid) (hl : zs.length ≤ maxLen) :
    Calls Try.prog 14 #[.agg #[I r, I c, .slice A zs.length cap], .slice B hid.length cap2, I width] w0
      fun e w' => ∃ b : Bool, e = .returned (.bool b) ∧ SafeG r c zs hid width b ∧ Below w0.heap.size w0 w' := by
  have H := SH.refl w0
  refine Calls.ofWP Try.func14 rfl Try.results14 Try.ntmps14 rfl ?_
  refine WP.seq ?_
  refine WP.region ?_
  refine OPS.box rfl rfl rfl rfl (cA rfl) H ?_
  clear H; intro g3 w H
  refine OPS.val rfl rfl rfl (Ev.asB rfl) ?_
  refine OPS.nil ?_
  refine WP.seq ?_
  refine WP.region ?_
  refine OPS.val rfl rfl rfl ((by first | exact Ev.loadO 0 H rfl (agg_run rfl) (size_run rfl) (by first | assumption | rfl) rfl | exact Ev.loadO 1 H rfl (agg_run rfl) (size_run rfl) (by first | assumption | rfl) rfl | exact Ev.loadO 2 H rfl (agg_run rfl) (size_run rfl) (by first | assumption | rfl) rfl | exact Ev.loadO 3 H rfl (agg_run rfl) (size_run rfl) (by first | assumption | rfl) rfl | exact Ev.loadO 4 H rfl (agg_run rfl) (size_run rfl) (by first | assumption | rfl) rfl | exact Ev.loadO 5 H rfl (agg_run rfl) (size_run rfl) (by first | assumption | rfl) rfl | exact Ev.loadO 6 H rfl (agg_run rfl) (size_run rfl) (by first | assumption | rfl) rfl | fail)) ?_
  refine OPS.val rfl rfl rfl (Ev.mvS rfl) ?_
  refine OPS.call (d := some 9) rfl rfl rfl (EvC.func (fun_run rfl)) (refCheck r c A B zs cap hid.length cap2 w (hz.sh H) hl) ?_
  rintro _ w ⟨rfl, hb⟩
  refine ⟨_, rfl, ?_⟩
  replace H := H.toBelow hb; clear hb
  refine OPS.val rfl rfl rfl (Ev.eql rfl rfl) ?_
  refine OPS.val rfl rfl rfl (Ev.mvB rfl) ?_
  refine OPS.gval rfl rfl rfl rfl rfl (fun hg => (by first | exact Ev.loadO 0 H rfl (agg_run rfl) (size_run rfl) (by first | assumption | rfl) rfl | exact Ev.loadO 1 H rfl (agg_run rfl) (size_run rfl) (by first | assumption | rfl) rfl | exact Ev.loadO 2 H rfl (agg_run rfl) (size_run rfl) (by first | assumption | rfl) rfl | exact Ev.loadO 3 H rfl (agg_run rfl) (size_run rfl) (by first | assumption | rfl) rfl | exact Ev.loadO 4 H rfl (agg_run rfl) (size_run rfl) (by first | assumption | rfl) rfl | exact Ev.loadO 5 H rfl (agg_run rfl) (size_run rfl) (by first | assumption | rfl) rfl | exact Ev.loadO 6 H rfl (agg_run rfl) (size_run rfl) (by first | assumption | rfl) rfl | fail)) ?_
  refine OPS.gval rfl rfl rfl rfl rfl (fun hg => Ev.mvS (by first | rfl | exact gvE hg rfl)) ?_
  refine OPS.gval rfl rfl rfl rfl rfl (fun hg => Ev.mvI (by first | rfl | exact gvE hg rfl)) ?_
  refine OPS.gcallX (α := Int) (f := 28) (args := [.agg #[I r, I c, .slice A zs.length cap], .slice B hid.length cap2, I width]) I (fun x _ => UnsafeG (RSp c zs hid) hid width x) (fun hg => ?_) rfl rfl rfl rfl rfl (fun hg => EvC.conv (EvC.func (fun_run rfl)) (l3 (by first | rfl | exact gvE hg rfl) (by first | rfl | exact gvE hg rfl) (by first | rfl | exact gvE hg rfl))) ?_
  · obtain ⟨hT, hh⟩ := refErr_zero (by simpa using hg)
    exact refUnsafe r c width A B zs hid cap cap2 w hT hh (hz.sh H) (hb.sh H)
  intro x w hR Hc
  replace H := H.toBelow Hc
  clear Hc
  refine OPS.gval rfl rfl rfl rfl rfl (fun hg => Ev.lss (by first | rfl | exact gvE hg rfl) (by first | rfl | exact gvE hg rfl)) ?_
  refine OPS.val rfl rfl rfl ((by first | exact Ev.pickOr rfl rfl rfl | exact Ev.pickAnd rfl rfl rfl)) ?_
  refine OPS.val rfl rfl rfl (Ev.asB rfl) ?_
  refine OPS.nil ?_
  refine WP.ret ⟨_, rfl, ?_⟩
  refine ⟨_, rfl, ?_, H.below⟩
  by_cases h : refErr r c zs hid.length = 0
  · obtain ⟨hT, hh⟩ := refErr_zero h
    exact .inr ⟨h, hT, hh, x, hR (by simp [h]), by simp [h]⟩
  · exact .inl ⟨h, by simp [h]⟩
end Go.Proofs.Ytmkgfgnpgoegcaa
