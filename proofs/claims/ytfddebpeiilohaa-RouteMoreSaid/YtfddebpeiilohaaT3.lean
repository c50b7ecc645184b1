/-
  Walks: times, Times.
-/
import Derived.Test.YtfddebpeiilohaaT2
set_option linter.all false
namespace Go.Proofs.Ytfddebpeiilohaa
open Go Go.W Go.RowKit

open Classical in
/-- the least time from s to v, or -1 -/
noncomputable def roadT (n : Nat) (l : List Edg) (s v : Nat) : Int :=
  if h : ∃ KD : (Nat → Bool) × (Nat → Int), RD l n s KD.1 KD.2 then (if h.choose.1 v = true then h.choose.2 v else -1) else -1
theorem roadT_eq {n s : Nat} {l : List Edg} (hok : RoadOk n l) {K : Nat → Bool} {D : Nat → Int} (hR : RD l n s K D) {v : Nat} (hv : v < n) : roadT n l s v = if K v = true then D v else -1 := by
  have hex : ∃ KD : (Nat → Bool) × (Nat → Int), RD l n s KD.1 KD.2 := ⟨(K, D), hR⟩
  have hu := RD.unique hok hex.choose_spec hR v hv
  unfold roadT
  rw [dif_pos hex]
  cases hk : K v with
  | true =>
    rw [hk] at hu
    rw [if_pos hu.1, if_pos rfl]
    exact hu.2 hu.1
  | false =>
    rw [hk] at hu
    rw [if_neg (by rw [hu.1]; simp), if_neg (by simp)]
noncomputable def timesL (n : Nat) (l : List Edg) (s : Nat) : List Int := (List.range n).map (roadT n l s)
theorem timesL_length (n : Nat) (l : List Edg) (s : Nat) : (timesL n l s).length = n := by simp [timesL]
theorem timesL_at {n : Nat} {l : List Edg} {s v : Nat} (h : v < (timesL n l s).length) : (timesL n l s)[v] = roadT n l s v := by simp [timesL]
def timesErr (n : Int) (l : List Edg) (k : Int) : Int := if roadErr n l ≠ 0 then roadErr n l else if isNode n k = true then 0 else 7
noncomputable def timesOf (n : Int) (l : List Edg) (k : Int) : List Int := if timesErr n l k = 0 then timesL n.toNat l k.toNat else []
theorem timesErr_ok {n : Int} {l : List Edg} {k : Int} (h : timesErr n l k = 0) : ∃ m s : Nat, n = m ∧ k = s ∧ s < m ∧ RoadOk m l := by
  unfold timesErr at h
  split at h
  · rename_i h1; exact absurd h h1
  · rename_i h1
    split at h
    · rename_i h2
      obtain ⟨m, rfl, hok⟩ := roadOk_of (by simpa using h1)
      simp [isNode] at h2
      obtain ⟨s, rfl⟩ := Int.eq_ofNat_of_zero_le h2.1
      exact ⟨m, s, rfl, rfl, by omega, hok⟩
    · cases h

set_option maxHeartbeats 400000 in
theorem roadTimes0 (n s : Nat) (A : Option Addr) (l : List Edg) (cap : Nat) (w0 : World) (hok : RoadOk n l) (hs : s < n) (hz : EdgsAt w0 A l) :
    Calls Try.prog 89 #[.agg #[I n, .slice A l.length cap], I s] w0 fun e w' => ∃ g : Nat, e = .returned (.slice (some ⟨g, 0, none⟩) n n) ∧ SH w0 [] w' [⟨g, 3, (timesL n l s).map I⟩] := by
  have H := SH.refl w0
  have hn2 := hok.n2
  obtain ⟨K, D, hR⟩ := rd_exists hok hs
  refine Calls.ofWP Try.func89 rfl Try.results89 Try.ntmps89 rfl ?_
  refine WP.seq ?_
  refine WP.region ?_
  refine OPS.box rfl rfl rfl rfl (cA rfl) H ?_
  clear H; intro g2 w H
  refine OPS.val rfl rfl rfl (Ev.asS rfl) ?_
  refine OPS.nil ?_
  refine WP.seq ?_
  refine WP.region ?_
  refine OPS.val rfl rfl rfl ((by exact Ev.loadO 0 H rfl (agg_run rfl) (size_run rfl) (by rfl) rfl)) ?_
  refine OPS.val rfl rfl rfl (Ev.mvI rfl) ?_
  refine OPS.call (d := some 12) rfl rfl rfl (EvC.func (fun_run rfl)) (roadSpread n s A l cap K D w hok hs hR (hz.sh H)) ?_
  rintro _ w ⟨gB, gF, best, found, rfl, hbl, hfl, hbf, Hc⟩
  refine ⟨_, rfl, ?_⟩
  replace H := SH.call (L1 := [_]) (Lv := []) H Hc
  clear Hc
  refine OPS.val rfl rfl rfl (Ev.mvT rfl) ?_
  refine OPS.val rfl rfl rfl (Ev.extract rfl rfl) ?_
  refine OPS.val rfl rfl rfl (Ev.extract rfl rfl) ?_
  refine OPS.val rfl rfl rfl (Ev.asS rfl) ?_
  refine OPS.val rfl rfl rfl (Ev.asS rfl) ?_
  refine OPS.nil ?_
  refine WP.seq ?_
  refine WP.region ?_
  refine OPS.val rfl rfl rfl (Ev.fieldAddr (fld_run rfl) rfl) ?_
  refine OPS.val rfl rfl rfl (Ev.load1 (agg_run rfl) rfl (by exact H.ldL 0 rfl _ rfl)) ?_
  refine OPS.makeSlice rfl rfl rfl rfl (sl_run rfl) rfl rfl rfl (by omega) (by omega) H ?_
  clear H; intro g17 w H
  refine OPS.val rfl rfl rfl (Ev.asS rfl) ?_
  refine OPS.nil ?_
  replace H := H.reidx (L' := [⟨g17, 3, (List.replicate n 0).map I⟩, ⟨gB, 143, best.flatMap legCells⟩, ⟨gF, 4, found.map Bo⟩]) [0, 2, 3] (by decide) (by rw [← mkL_ones]; rfl)
  have hml : (timesL n l s).length = (List.replicate n (0 : Int)).length := by simp [timesL]
  have htl := timesL_length n l s
  refine WP.seq ?_
  refine WP.seq ?_
  refine WP.region ?_
  refine OPS.val rfl rfl rfl (Ev.mvS rfl) ?_
  refine OPS.val rfl rfl rfl (Ev.len (el_run rfl) rfl) ?_
  refine OPS.val rfl rfl rfl (Ev.mvI rfl) ?_
  refine OPS.nil ?_
  refine WP.block ?_
  refine WP.loop [8, 20, 21, 22, 23, 24, 25, 26, 27, 28, 29, 30, 31, 32, 33, 34, 35, 36, 37, 38] (fun k e w' => ∃ q : Nat, q + k = n ∧ e 20 = I q ∧ SH w0 [] w' [⟨g17, 3, (mixL (timesL n l s) (List.replicate n 0) q).map I⟩, ⟨gB, 143, best.flatMap legCells⟩, ⟨gF, 4, found.map Bo⟩]) (n) (⟨0, by omega, rfl, by rw [mixL_zero]; exact H⟩) ?_
  clear H
  rintro k u w ⟨q, hq, h20, H⟩
  refine WP.know (t := 20) h20 ?_
  refine WP.seq ?_
  refine WP.region ?_
  refine OPS.val rfl rfl rfl (Ev.lss rfl rfl) ?_
  refine OPS.nil ?_
  refine WP.seq ?_
  refine WP.cond rfl (fun hc4 => ?_) (fun hc4 => ?_)
  · have hqn : q < n := by simpa using hc4
    have hmx : (mixL (timesL n l s) (List.replicate n 0) q).length = n := by rw [mixL_length hml (by omega)]; exact htl
    have hms := mixL_set (m := List.replicate n (0 : Int)) hml (show q < (timesL n l s).length by omega)
    rw [timesL_at] at hms
    have hT := roadT_eq hok hR hqn
    obtain ⟨hf1, hf2⟩ := hbf q hqn
    have hfq : fnd found q = found[q]'(by omega) := by simp [fnd, hfl, hqn]
    have hbq : bst best q = (best[q]'(by omega)).secs := by simp [bst, hbl, hqn]
    refine WP.skip ?_
    refine WP.seq ?_
    refine WP.block ?_
    refine WP.seq ?_
    refine WP.region ?_
    refine OPS.val rfl rfl rfl (Ev.mvI rfl) ?_
    refine OPS.val rfl rfl rfl (Ev.asI rfl) ?_
    refine OPS.nil ?_
    refine WP.seq ?_
    refine WP.region ?_
    refine OPS.val rfl rfl rfl (Ev.mvS rfl) ?_
    refine OPS.val rfl rfl rfl (Ev.mvI rfl) ?_
    refine OPS.val rfl rfl rfl ((by exact Ev.indexAddr1 (el_run rfl) (size_run rfl) rfl rfl rfl (by omega))) ?_
    have hpu : putL ((mixL (timesL n l s) (List.replicate n 0) q).map I) (0 + q) [I (-1)] = ((mixL (timesL n l s) (List.replicate n 0) q).set q (-1)).map I := by rw [Nat.zero_add, putL_ones]
    refine OPS.store (vs := [I (-1)]) 0 _ rfl rfl rfl (size_run rfl) rfl (cI rfl) rfl rfl H rfl (by simp only [List.length_map, hmx]; omega) ?_
    clear H; intro w H
    simp only [List.set_cons_zero, List.set_cons_succ] at H
    rw [hpu] at H
    refine OPS.nil ?_
    refine WP.seq ?_
    refine WP.region ?_
    obtain ⟨_, _, e1, hfc⟩ := onesOwn H 2 rfl q (by omega)
    cases e1
    refine OPS.val rfl rfl rfl (Ev.mvS rfl) ?_
    refine OPS.val rfl rfl rfl (Ev.mvI rfl) ?_
    refine OPS.val rfl rfl rfl ((by exact Ev.indexAddr1 (el_run rfl) (size_run rfl) rfl rfl rfl (by omega))) ?_
    refine OPS.val rfl rfl rfl (Ev.load1 (agg_run rfl) rfl (by assumption)) ?_
    refine OPS.nil ?_
    refine WP.cond rfl (fun hc7 => ?_) (fun hc7 => ?_)
    · have hkq : K q = true := by rw [← hf1, hfq]; exact hc7
      have hTq : roadT n l s q = (best[q]'(by omega)).secs := by rw [hT, if_pos hkq, ← hf2 hkq, hbq]
      refine WP.region ?_
      obtain ⟨_, _, e1, b0, b1, _⟩ := rowsOwn' legCells_len H 1 rfl q (by omega)
      cases e1
      refine OPS.val rfl rfl rfl (Ev.mvS rfl) ?_
      refine OPS.val rfl rfl rfl (Ev.mvI rfl) ?_
      refine OPS.val rfl rfl rfl (Ev.mvS rfl) ?_
      refine OPS.val rfl rfl rfl (Ev.mvI rfl) ?_
      refine OPS.val rfl rfl rfl ((by exact Ev.indexAddr (el_run rfl) (size_run rfl) rfl rfl rfl (by omega))) ?_
      refine OPS.val rfl rfl rfl (Ev.fieldAddr (fld_run rfl) rfl) ?_
      refine OPS.val rfl rfl rfl (Ev.load1 (agg_run rfl) rfl (by assumption)) ?_
      refine OPS.val rfl rfl rfl ((by exact Ev.indexAddr1 (el_run rfl) (size_run rfl) rfl rfl rfl (by omega))) ?_
      have hpu : putL (((mixL (timesL n l s) (List.replicate n 0) q).set q (-1)).map I) (0 + q) [I (best[q]'(by omega)).secs] = (mixL (timesL n l s) (List.replicate n 0) (q + 1)).map I := by rw [Nat.zero_add, putL_ones, List.set_set, ← hTq, hms]
      refine OPS.store (vs := [I (best[q]'(by omega)).secs]) 0 _ rfl rfl rfl (size_run rfl) rfl (cI rfl) rfl rfl H rfl (by simp only [List.length_map, List.length_set, hmx]; omega) ?_
      clear H; intro w H
      simp only [List.set_cons_zero, List.set_cons_succ] at H
      rw [hpu] at H
      refine OPS.nil ?_
      refine WP.region ?_
      refine OPS.val rfl rfl rfl (Ev.add rfl rfl (by unfold fits; omega)) ?_
      refine OPS.val rfl rfl rfl (Ev.mvI rfl) ?_
      refine OPS.nil ?_
      exact ⟨(by repeat (first | exact Agree.refl _ _ | exact Agree.mix _ _ _ | refine Agree.upd rfl ?_ | refine Agree.mix2 rfl ?_)), k - 1, by omega, q + 1, by omega, rfl, H⟩
    have hkq : K q = false := by rw [← hf1, hfq]; exact hc7
    have hTq : roadT n l s q = -1 := by rw [hT, if_neg (by rw [hkq]; simp)]
    rw [← hTq, hms] at H
    refine WP.skip ?_
    refine WP.region ?_
    refine OPS.val rfl rfl rfl (Ev.add rfl rfl (by unfold fits; omega)) ?_
    refine OPS.val rfl rfl rfl (Ev.mvI rfl) ?_
    refine OPS.nil ?_
    exact ⟨(by repeat (first | exact Agree.refl _ _ | exact Agree.mix _ _ _ | refine Agree.upd rfl ?_ | refine Agree.mix2 rfl ?_)), k - 1, by omega, q + 1, by omega, rfl, H⟩
  refine WP.exit ?_
  refine XB.hit ?_
  refine WP.seq ?_
  refine WP.region ?_
  refine OPS.val rfl rfl rfl (Ev.mvS rfl) ?_
  refine OPS.val rfl rfl rfl (Ev.asS rfl) ?_
  refine OPS.nil ?_
  refine WP.ret ⟨_, rfl, ?_⟩
  have hqn : q = n := by simp at hc4; omega
  have hma : mixL (timesL n l s) (List.replicate n 0) n = timesL n l s := by
    have h := mixL_all hml
    rw [htl] at h; exact h
  rw [hqn, hma] at H
  exact ⟨g17, rfl, H.reidx [0] (by decide) rfl⟩

theorem roadTimes (n k : Int) (A : Option Addr) (l : List Edg) (cap : Nat) (w0 : World) (hz : EdgsAt w0 A l) :
    Calls Try.prog 77 #[.agg #[I n, .slice A l.length cap], I k] w0 fun e w' => ∃ (C : Option Addr) (Lc : List Blk), e = .returned (.tuple #[.slice C (timesOf n l k).length (timesOf n l k).length, I (timesErr n l k)]) ∧ OwnL 3 I C (timesOf n l k) Lc ∧ SH w0 [] w' Lc := by
  have H := SH.refl w0
  refine Calls.ofWP Try.func77 rfl Try.results77 Try.ntmps77 rfl ?_
  refine WP.seq ?_
  refine WP.region ?_
  refine OPS.box rfl rfl rfl rfl (cA rfl) H ?_
  clear H; intro g2 w H
  refine OPS.val rfl rfl rfl (Ev.asS rfl) ?_
  refine OPS.val rfl rfl rfl (Ev.asI rfl) ?_
  refine OPS.nil ?_
  refine WP.seq ?_
  refine WP.seq ?_
  refine WP.region ?_
  refine OPS.val rfl rfl rfl ((by exact Ev.loadO 0 H rfl (agg_run rfl) (size_run rfl) (by rfl) rfl)) ?_
  refine OPS.call (d := some 8) rfl rfl rfl (EvC.func (fun_run rfl)) (roadCheck n A l cap w (hz.sh H)) ?_
  rintro _ w ⟨rfl, hb⟩
  refine ⟨_, rfl, ?_⟩
  replace H := H.toBelow hb; clear hb
  refine OPS.val rfl rfl rfl (Ev.asI rfl) ?_
  refine OPS.nil ?_
  refine WP.seq ?_
  refine WP.region ?_
  refine OPS.val rfl rfl rfl (Ev.mvI rfl) ?_
  refine OPS.val rfl rfl rfl (Ev.neq rfl rfl) ?_
  refine OPS.nil ?_
  refine WP.cond rfl (fun hc2 => ?_) (fun hc2 => ?_)
  · refine WP.seq ?_
    refine WP.region ?_
    refine OPS.val rfl rfl rfl (Ev.mvI rfl) ?_
    refine OPS.val rfl rfl rfl (Ev.asS rfl) ?_
    refine OPS.val rfl rfl rfl (Ev.asI rfl) ?_
    refine OPS.nil ?_
    refine WP.ret ⟨_, rfl, ?_⟩
    have h : roadErr n l ≠ 0 := by simpa using hc2
    have he : timesErr n l k = roadErr n l := by rw [timesErr, if_pos h]
    have ht : timesOf n l k = [] := by rw [timesOf, if_neg (by rw [he]; exact h)]
    exact ⟨none, [], by rw [ht, he]; rfl, by rw [ht]; exact OwnL.nil, H.reidx [] (by decide) rfl⟩
  have h0 : roadErr n l = 0 := by simpa using hc2
  refine WP.skip ?_
  refine WP.seq ?_
  refine WP.seq ?_
  refine WP.region ?_
  refine OPS.val rfl rfl rfl ((by exact Ev.loadO 0 H rfl (agg_run rfl) (size_run rfl) (by rfl) rfl)) ?_
  refine OPS.val rfl rfl rfl (Ev.mvI rfl) ?_
  refine OPS.call (d := some 14) rfl rfl rfl (EvC.func (fun_run rfl)) (roadNode n k _ _ _ _) ?_
  rintro _ w ⟨rfl, hb⟩
  refine ⟨_, rfl, ?_⟩
  replace H := H.toBelow hb; clear hb
  refine OPS.val rfl rfl rfl (Ev.not rfl) ?_
  refine OPS.nil ?_
  refine WP.cond rfl (fun hc4 => ?_) (fun hc4 => ?_)
  · refine WP.seq ?_
    refine WP.region ?_
    refine OPS.val rfl rfl rfl (Ev.asS rfl) ?_
    refine OPS.val rfl rfl rfl (Ev.asI rfl) ?_
    refine OPS.nil ?_
    refine WP.ret ⟨_, rfl, ?_⟩
    have hnn : isNode n k = false := by simpa using hc4
    have he : timesErr n l k = 7 := by rw [timesErr, if_neg (by simp [h0]), if_neg (by simp [hnn])]
    have ht : timesOf n l k = [] := by rw [timesOf, if_neg (by rw [he]; decide)]
    exact ⟨none, [], by rw [ht, he]; rfl, by rw [ht]; exact OwnL.nil, H.reidx [] (by decide) rfl⟩
  have hnn : isNode n k = true := by simpa using hc4
  have he : timesErr n l k = 0 := by rw [timesErr, if_neg (by simp [h0]), if_pos hnn]
  obtain ⟨m, s, rfl, rfl, hsm, hok⟩ := timesErr_ok he
  have ht : timesOf m l s = timesL m l s := by rw [timesOf, if_pos he]; simp
  refine WP.skip ?_
  refine WP.seq ?_
  refine WP.region ?_
  refine OPS.val rfl rfl rfl ((by exact Ev.loadO 0 H rfl (agg_run rfl) (size_run rfl) (by rfl) rfl)) ?_
  refine OPS.val rfl rfl rfl (Ev.mvI rfl) ?_
  refine OPS.call (d := some 18) rfl rfl rfl (EvC.func (fun_run rfl)) (roadTimes0 m s A l cap w hok hsm (hz.sh H)) ?_
  rintro _ w ⟨g, rfl, Hc⟩
  refine ⟨_, rfl, ?_⟩
  replace H := SH.call (L1 := [_]) (Lv := []) H Hc
  clear Hc
  refine OPS.val rfl rfl rfl (Ev.asS rfl) ?_
  refine OPS.val rfl rfl rfl (Ev.asI rfl) ?_
  refine OPS.nil ?_
  refine WP.ret ⟨_, rfl, ?_⟩
  exact ⟨some ⟨g, 0, none⟩, _, by rw [he, ht, timesL_length]; rfl, by rw [ht]; exact OwnL.mk g _, H.reidx [1] (by decide) rfl⟩
end Go.Proofs.Ytfddebpeiilohaa
