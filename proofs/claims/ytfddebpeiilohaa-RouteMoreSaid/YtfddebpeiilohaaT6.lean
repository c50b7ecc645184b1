/-
  Walk: the reference's Times.
-/
import Derived.Test.YtfddebpeiilohaaT5
set_option linter.all false
namespace Go.Proofs.Ytfddebpeiilohaa
open Go Go.W Go.RowKit

/-- the list of least times, with the far value put away up to q -/
theorem farAway {n : Nat} {l : List Edg} {s : Nat} {K : Nat → Bool} {D : Nat → Int} (hok : RoadOk n l) (hR : RD l n s K D) {d : List Int} (hd : d.length = n) (hall : ∀ v, v < n → dAt d v = if K v = true then D v else 1099511627776) {q : Nat} (hq : q < n) :
    (timesL n l s)[q]'(by rw [timesL_length]; exact hq) = if d[q]'(by omega) = 1099511627776 then -1 else d[q]'(by omega) := by
  have h1 := hall q hq
  have h2 : dAt d q = d[q]'(by omega) := by simp [dAt, hd, hq]
  rw [timesL_at, roadT_eq hok hR hq, ← h2, h1]
  cases hk : K q with
  | true =>
    have := hR.small hok hq hk
    simp only [if_true]
    rw [if_neg (by omega)]
  | false => simp

set_option maxHeartbeats 1000000 in
theorem r8Times (n k : Int) (A : Option Addr) (l : List Edg) (cap : Nat) (w0 : World) (hz : EdgsAt w0 A l) :
    Calls Try.prog 66 #[.agg #[I n, .slice A l.length cap], I k] w0 fun e w' => ∃ (C : Option Addr) (Lc : List Blk), e = .returned (.tuple #[.slice C (timesOf n l k).length (timesOf n l k).length, I (timesErr n l k)]) ∧ OwnL 3 I C (timesOf n l k) Lc ∧ SH w0 [] w' Lc := by
  have H := SH.refl w0
  refine Calls.ofWP Try.func66 rfl Try.results66 Try.ntmps66 rfl ?_
  refine WP.seq ?_
  refine WP.region ?_
  refine OPS.box rfl rfl rfl rfl (cA rfl) H ?_
  clear H; intro g2 w H
  refine OPS.val rfl rfl rfl (Ev.asS rfl) ?_
  refine OPS.val rfl rfl rfl (Ev.asI rfl) ?_
  refine OPS.nil ?_
  refine WP.seq ?_
  refine WP.seq ?_
  refine WP.region ?_
  refine OPS.val rfl rfl rfl ((by exact Ev.loadO 0 H rfl (agg_run rfl) (size_run rfl) (by rfl) rfl)) ?_
  refine OPS.call (d := some 13) rfl rfl rfl (EvC.func (fun_run rfl)) (r8Check n A l cap w (hz.sh H)) ?_
  rintro _ w ⟨rfl, hb⟩
  refine ⟨_, rfl, ?_⟩
  replace H := H.toBelow hb; clear hb
  refine OPS.val rfl rfl rfl (Ev.asI rfl) ?_
  refine OPS.nil ?_
  refine WP.seq ?_
  refine WP.region ?_
  refine OPS.val rfl rfl rfl (Ev.mvI rfl) ?_
  refine OPS.val rfl rfl rfl (Ev.neq rfl rfl) ?_
  refine OPS.nil ?_
  refine WP.cond rfl (fun hc2 => ?_) (fun hc2 => ?_)
  · refine WP.seq ?_
    refine WP.region ?_
    refine OPS.val rfl rfl rfl (Ev.mvI rfl) ?_
    refine OPS.val rfl rfl rfl (Ev.asS rfl) ?_
    refine OPS.val rfl rfl rfl (Ev.asI rfl) ?_
    refine OPS.nil ?_
    refine WP.ret ⟨_, rfl, ?_⟩
    have h : roadErr n l ≠ 0 := by simpa using hc2
    have he : timesErr n l k = roadErr n l := by rw [timesErr, if_pos h]
    have ht : timesOf n l k = [] := by rw [timesOf, if_neg (by rw [he]; exact h)]
    exact ⟨none, [], by rw [ht, he]; rfl, by rw [ht]; exact OwnL.nil, H.reidx [] (by decide) rfl⟩
  have h0 : roadErr n l = 0 := by simpa using hc2
  refine WP.skip ?_
  refine WP.seq ?_
  refine WP.seq ?_
  refine WP.region ?_
  refine OPS.val rfl rfl rfl ((by exact Ev.loadO 0 H rfl (agg_run rfl) (size_run rfl) (by rfl) rfl)) ?_
  refine OPS.val rfl rfl rfl (Ev.mvI rfl) ?_
  refine OPS.call (d := some 19) rfl rfl rfl (EvC.func (fun_run rfl)) (r8Node n k _ _ _ _) ?_
  rintro _ w ⟨rfl, hb⟩
  refine ⟨_, rfl, ?_⟩
  replace H := H.toBelow hb; clear hb
  refine OPS.val rfl rfl rfl (Ev.not rfl) ?_
  refine OPS.nil ?_
  refine WP.cond rfl (fun hc4 => ?_) (fun hc4 => ?_)
  · refine WP.seq ?_
    refine WP.region ?_
    refine OPS.val rfl rfl rfl (Ev.asS rfl) ?_
    refine OPS.val rfl rfl rfl (Ev.asI rfl) ?_
    refine OPS.nil ?_
    refine WP.ret ⟨_, rfl, ?_⟩
    have hnn : isNode n k = false := by simpa using hc4
    have he : timesErr n l k = 7 := by rw [timesErr, if_neg (by simp [h0]), if_neg (by simp [hnn])]
    have ht : timesOf n l k = [] := by rw [timesOf, if_neg (by rw [he]; decide)]
    exact ⟨none, [], by rw [ht, he]; rfl, by rw [ht]; exact OwnL.nil, H.reidx [] (by decide) rfl⟩
  have hnn : isNode n k = true := by simpa using hc4
  have he : timesErr n l k = 0 := by rw [timesErr, if_neg (by simp [h0]), if_pos hnn]
  obtain ⟨m, s, rfl, rfl, hsm, hok⟩ := timesErr_ok he
  have ht : timesOf m l s = timesL m l s := by rw [timesOf, if_pos he]; simp
  have hll := hok.len
  obtain ⟨K, D, hR⟩ := rd_exists hok hsm
  refine WP.skip ?_
  refine WP.seq ?_
  refine WP.region ?_
  refine OPS.val rfl rfl rfl (Ev.fieldAddr (fld_run rfl) rfl) ?_
  refine OPS.val rfl rfl rfl (Ev.load1 (agg_run rfl) rfl (by exact H.ldL 0 rfl _ rfl)) ?_
  refine OPS.val rfl rfl rfl (Ev.build (bld_24_0 rfl)) ?_
  refine OPS.alloc rfl rfl rfl rfl (zero_run rfl) rfl H ?_
  clear H; intro g7 w H
  refine OPS.store 0 _ rfl rfl rfl (size_run rfl) rfl (cA rfl) rfl rfl H rfl (by simp) ?_
  clear H; intro w H; try simp only [List.set_cons_zero, List.set_cons_succ, putL, Nat.zero_add] at H
  refine OPS.nil ?_
  refine WP.seq ?_
  refine WP.seq ?_
  refine WP.region ?_
  refine OPS.val rfl rfl rfl (Ev.asI rfl) ?_
  refine OPS.nil ?_
  refine WP.block ?_
  refine WP.loop [8, 24, 25, 26, 27, 28, 29, 30, 31, 32, 33, 34, 35, 36, 37, 38, 39, 40, 41, 42, 43, 44, 45, 46, 47, 48, 49, 50, 51, 52, 53, 54] (fun k e w' => ∃ (j : Nat) (A' : Option Addr) (cap' : Nat) (Lo : List Blk), j + k = l.length ∧ e 8 = I j ∧ OwnS A' cap' j (((l.take j).map rv).flatMap edgCells) 72 3 Lo ∧ SH w0 [] w' ([⟨g7, 24, [I m, .slice A' j cap']⟩, ⟨g2, 24, [I m, .slice A l.length cap]⟩] ++ Lo)) (l.length) (⟨0, none, 0, [], by omega, rfl, OwnS.nil, H.reidx [0, 1] (by decide) rfl⟩) ?_
  clear H
  rintro k u w ⟨j, A', cap', Lo, hk, h8, hO, H⟩
  refine WP.know (t := 8) h8 ?_
  refine WP.seq ?_
  refine WP.seq ?_
  refine WP.region ?_
  refine OPS.val rfl rfl rfl (Ev.mvI rfl) ?_
  refine OPS.val rfl rfl rfl (Ev.fieldAddr (fld_run rfl) rfl) ?_
  refine OPS.val rfl rfl rfl (Ev.load1 (agg_run rfl) rfl (by exact H.ldL 1 rfl _ rfl)) ?_
  refine OPS.val rfl rfl rfl (Ev.len (el_run rfl) rfl) ?_
  refine OPS.val rfl rfl rfl (Ev.lss rfl rfl) ?_
  refine OPS.nil ?_
  refine WP.cond rfl (fun hc8 => ?_) (fun hc8 => ?_)
  · have hlt : j < l.length := by simpa using hc8
    obtain ⟨b, o, rfl, hc⟩ := hz j hlt
    have el : ((l.take (j + 1)).map rv).flatMap edgCells = ((l.take j).map rv).flatMap edgCells ++ edgCells (rv l[j]) := by rw [List.take_succ_eq_append_getElem hlt, List.map_append, List.flatMap_append]; rfl
    have hf0 : w0.cell? ⟨b, o + j * 3, none⟩ = some (I l[j].f) := hc.1
    have hf1 : w0.cell? ⟨b, o + j * 3 + 1, none⟩ = some (I l[j].t) := hc.2.1
    have hf2 : w0.cell? ⟨b, o + j * 3 + 2, none⟩ = some (I l[j].secs) := hc.2.2.1
    refine WP.skip ?_
    refine WP.seq ?_
    refine WP.block ?_
    have Hf := H
    replace H : SH w0 [] w [⟨g2, 24, [I m, .slice (some ⟨b, o, none⟩) l.length cap]⟩] := (H.reidxT (L := [_, _]) (L' := [⟨g2, 24, [I m, .slice (some ⟨b, o, none⟩) l.length cap]⟩]) [1] (by decide) rfl).drop (List.sublist_append_left _ _)
    refine WP.rheldC [31, 32, 33, 34, 35, 36, 37, 38, 39, 40, 41, 42, 43, 44, 45, 46, 47, 48, 49, 50, 51, 52, 53, 54] (fun _ w' => ∃ (A' : Option Addr) (cap' : Nat) (Lo : List Blk), OwnS A' cap' (j + 1) (((l.take j).map rv).flatMap edgCells ++ edgCells (rv l[j])) 72 3 Lo ∧ SH w0 [] w' ([⟨g7, 24, [I m, .slice A' (j + 1) cap']⟩, ⟨g2, 24, [I m, .slice (some ⟨b, o, none⟩) l.length cap]⟩] ++ Lo)) mixed H ?_ ?_
    · clear H; intro w hbw10 H
      refine OPH.take 0 rfl rfl rfl rfl (by kernel_rfl) (by kernel_rfl) (by kernel_rfl) rfl (by exact H) (fun w H => Ev.fieldAddr (fld_run rfl) rfl) ?_
      refine OPH.take 2 rfl rfl rfl rfl (by kernel_rfl) (by kernel_rfl) (by kernel_rfl) rfl (by exact H) (fun w H => Ev.fieldAddr (fld_run rfl) rfl) ?_
      refine OPH.take 3 rfl rfl rfl rfl (by kernel_rfl) (by kernel_rfl) (by kernel_rfl) rfl (by exact H) (fun w H => Ev.load1 (agg_run rfl) rfl (by exact H.ldL 0 rfl _ rfl)) ?_
      refine OPH.take 4 rfl rfl rfl rfl (by kernel_rfl) (by kernel_rfl) (by kernel_rfl) rfl (by exact H) (fun w H => Ev.mvI rfl) ?_
      refine OPH.take 5 rfl rfl rfl rfl (by kernel_rfl) (by kernel_rfl) (by kernel_rfl) rfl (by exact H) (fun w H => (by exact Ev.indexAddr (el_run rfl) (size_run rfl) rfl rfl rfl (by omega))) ?_
      refine OPH.take 6 rfl rfl rfl rfl (by kernel_rfl) (by kernel_rfl) (by kernel_rfl) rfl (by exact H) (fun w H => Ev.fieldAddr (fld_run rfl) rfl) ?_
      refine OPH.take 7 rfl rfl rfl rfl (by kernel_rfl) (by kernel_rfl) (by kernel_rfl) rfl (by exact H) (fun w H => Ev.load1 (agg_run rfl) rfl (by exact H.ld0 (by assumption))) ?_
      refine OPH.take 8 rfl rfl rfl rfl (by kernel_rfl) (by kernel_rfl) (by kernel_rfl) rfl (by exact H) (fun w H => Ev.fieldAddr (fld_run rfl) rfl) ?_
      refine OPH.take 9 rfl rfl rfl rfl (by kernel_rfl) (by kernel_rfl) (by kernel_rfl) rfl (by exact H) (fun w H => Ev.load1 (agg_run rfl) rfl (by exact H.ldL 0 rfl _ rfl)) ?_
      refine OPH.take 10 rfl rfl rfl rfl (by kernel_rfl) (by kernel_rfl) (by kernel_rfl) rfl (by exact H) (fun w H => Ev.mvI rfl) ?_
      refine OPH.take 11 rfl rfl rfl rfl (by kernel_rfl) (by kernel_rfl) (by kernel_rfl) rfl (by exact H) (fun w H => (by exact Ev.indexAddr (el_run rfl) (size_run rfl) rfl rfl rfl (by omega))) ?_
      refine OPH.take 12 rfl rfl rfl rfl (by kernel_rfl) (by kernel_rfl) (by kernel_rfl) rfl (by exact H) (fun w H => Ev.fieldAddr (fld_run rfl) rfl) ?_
      refine OPH.take 13 rfl rfl rfl rfl (by kernel_rfl) (by kernel_rfl) (by kernel_rfl) rfl (by exact H) (fun w H => Ev.load1 (agg_run rfl) rfl (by exact H.ld0 (by assumption))) ?_
      refine OPH.take 14 rfl rfl rfl rfl (by kernel_rfl) (by kernel_rfl) (by kernel_rfl) rfl (by exact H) (fun w H => Ev.fieldAddr (fld_run rfl) rfl) ?_
      refine OPH.take 15 rfl rfl rfl rfl (by kernel_rfl) (by kernel_rfl) (by kernel_rfl) rfl (by exact H) (fun w H => Ev.load1 (agg_run rfl) rfl (by exact H.ldL 0 rfl _ rfl)) ?_
      refine OPH.take 16 rfl rfl rfl rfl (by kernel_rfl) (by kernel_rfl) (by kernel_rfl) rfl (by exact H) (fun w H => Ev.mvI rfl) ?_
      refine OPH.take 17 rfl rfl rfl rfl (by kernel_rfl) (by kernel_rfl) (by kernel_rfl) rfl (by exact H) (fun w H => (by exact Ev.indexAddr (el_run rfl) (size_run rfl) rfl rfl rfl (by omega))) ?_
      refine OPH.take 18 rfl rfl rfl rfl (by kernel_rfl) (by kernel_rfl) (by kernel_rfl) rfl (by exact H) (fun w H => Ev.fieldAddr (fld_run rfl) rfl) ?_
      refine OPH.take 19 rfl rfl rfl rfl (by kernel_rfl) (by kernel_rfl) (by kernel_rfl) rfl (by exact H) (fun w H => Ev.load1 (agg_run rfl) rfl (by exact H.ld0 (by assumption))) ?_
      refine OPH.take 20 rfl rfl rfl rfl (by kernel_rfl) (by kernel_rfl) (by kernel_rfl) rfl (by exact H) (fun w H => Ev.build (bld_72_0_1_2 rfl rfl rfl)) ?_
      refine OPH.all [1, 21] (by kernel_rfl) (by simp) rfl ?_
      intro i hi; simp only [List.mem_cons, List.not_mem_nil, or_false] at hi
      rcases hi with rfl | rfl
      · refine ⟨_, rfl, ?_⟩
        try replace Hf := Hf.toBelow hbw10
        refine OPS.val rfl rfl rfl (Ev.load1 (agg_run rfl) rfl (by exact Hf.ldL 0 rfl 1 rfl)) ?_
        refine OPS.nil ?_
        refine ⟨(by exact H), ?_⟩
        refine OPH.all [21] (by kernel_rfl) (by simp) rfl ?_
        intro i hi; simp only [List.mem_cons, List.not_mem_nil, or_false] at hi
        rcases hi with rfl
        · refine ⟨_, rfl, ?_⟩
          try replace Hf := Hf.toBelow hbw10
          refine OPS.buildSlice rfl rfl rfl rfl (bsl_22_1_0 rfl) Hf ?_
          clear H Hf; intro g52 w Hf
          have H : SH w0 [] w [⟨g2, 24, [I m, .slice (some ⟨b, o, none⟩) l.length cap]⟩] := (Hf.reidxT (L := [_, _, _]) (L' := [⟨g2, 24, [I m, .slice (some ⟨b, o, none⟩) l.length cap]⟩]) [2] (by decide) rfl).drop (List.sublist_append_left _ _)
          refine OPS.nil ?_
          refine ⟨(by exact H), ?_⟩
          refine OPH.all [22] (by kernel_rfl) (by simp) rfl ?_
          intro i hi; simp only [List.mem_cons, List.not_mem_nil, or_false] at hi
          rcases hi with rfl
          · refine ⟨_, rfl, ?_⟩
            refine OPS.append (m := 1) (news := edgCells (rv l[j])) (R := [⟨g52, 72, edgCells (rv l[j])⟩, ⟨g7, 24, [I m, .slice A' j cap']⟩, ⟨g2, 24, [I m, .slice (some ⟨b, o, none⟩) l.length cap]⟩]) rfl rfl rfl rfl rfl (sl_run rfl) rfl rfl hO rfl (src_own Hf 0 rfl) rfl (by omega) (by unfold maxLen; omega) Hf (List.Perm.refl _) ?_
            clear H Hf hO; intro A' cap' Lo w hO Hf
            have H : SH w0 [] w [⟨g2, 24, [I m, .slice (some ⟨b, o, none⟩) l.length cap]⟩] := (Hf.reidxT (L := [_, _, _]) (L' := [⟨g2, 24, [I m, .slice (some ⟨b, o, none⟩) l.length cap]⟩]) [2] (by decide) rfl).drop (List.sublist_append_left _ _)
            refine OPS.nil ?_
            refine ⟨(by exact H), ?_⟩
            refine OPH.take 23 rfl rfl rfl rfl (by kernel_rfl) (by kernel_rfl) (by kernel_rfl) rfl (by exact H) (fun w H => Ev.fieldAddr (fld_run rfl) rfl) ?_
            refine OPH.all [24] (by kernel_rfl) (by simp) rfl ?_
            intro i hi; simp only [List.mem_cons, List.not_mem_nil, or_false] at hi
            rcases hi with rfl
            · refine ⟨_, rfl, ?_⟩
              refine OPS.store 1 _ rfl rfl rfl (size_run rfl) rfl (cS rfl) rfl rfl Hf rfl (by simp) ?_
              clear H Hf; intro w Hf
              replace Hf := Hf.drop (L' := [⟨g7, 24, [I m, .slice A' (j + 1) cap']⟩, ⟨g2, 24, [I m, .slice (some ⟨b, o, none⟩) l.length cap]⟩] ++ Lo) (List.sublist_cons_self _ _)
              have H : SH w0 [] w [⟨g2, 24, [I m, .slice (some ⟨b, o, none⟩) l.length cap]⟩] := (Hf.reidxT (L := [_, _]) (L' := [⟨g2, 24, [I m, .slice (some ⟨b, o, none⟩) l.length cap]⟩]) [1] (by decide) rfl).drop (List.sublist_append_left _ _)
              refine OPS.nil ?_
              refine ⟨(by exact H), ?_⟩
              refine OPH.done (by kernel_rfl) ?_
              exact ⟨(by repeat (first | exact Agree.refl _ _ | exact Agree.mix _ _ _ | refine Agree.upd rfl ?_ | refine Agree.mix2 rfl ?_)), A', cap', Lo, hO, Hf⟩
      · refine ⟨_, rfl, ?_⟩
        try replace Hf := Hf.toBelow hbw10
        refine OPS.buildSlice rfl rfl rfl rfl (bsl_22_1_0 rfl) Hf ?_
        clear H Hf; intro g52 w Hf
        have H : SH w0 [] w [⟨g2, 24, [I m, .slice (some ⟨b, o, none⟩) l.length cap]⟩] := (Hf.reidxT (L := [_, _, _]) (L' := [⟨g2, 24, [I m, .slice (some ⟨b, o, none⟩) l.length cap]⟩]) [2] (by decide) rfl).drop (List.sublist_append_left _ _)
        refine OPS.nil ?_
        refine ⟨(by exact H), ?_⟩
        refine OPH.all [1] (by kernel_rfl) (by simp) rfl ?_
        intro i hi; simp only [List.mem_cons, List.not_mem_nil, or_false] at hi
        rcases hi with rfl
        · refine ⟨_, rfl, ?_⟩
          try replace Hf := Hf.toBelow hbw10
          refine OPS.val rfl rfl rfl (Ev.load1 (agg_run rfl) rfl (by exact Hf.ldL 1 rfl 1 rfl)) ?_
          refine OPS.nil ?_
          refine ⟨(by exact H), ?_⟩
          refine OPH.all [22] (by kernel_rfl) (by simp) rfl ?_
          intro i hi; simp only [List.mem_cons, List.not_mem_nil, or_false] at hi
          rcases hi with rfl
          · refine ⟨_, rfl, ?_⟩
            refine OPS.append (m := 1) (news := edgCells (rv l[j])) (R := [⟨g52, 72, edgCells (rv l[j])⟩, ⟨g7, 24, [I m, .slice A' j cap']⟩, ⟨g2, 24, [I m, .slice (some ⟨b, o, none⟩) l.length cap]⟩]) rfl rfl rfl rfl rfl (sl_run rfl) rfl rfl hO rfl (src_own Hf 0 rfl) rfl (by omega) (by unfold maxLen; omega) Hf (List.Perm.refl _) ?_
            clear H Hf hO; intro A' cap' Lo w hO Hf
            have H : SH w0 [] w [⟨g2, 24, [I m, .slice (some ⟨b, o, none⟩) l.length cap]⟩] := (Hf.reidxT (L := [_, _, _]) (L' := [⟨g2, 24, [I m, .slice (some ⟨b, o, none⟩) l.length cap]⟩]) [2] (by decide) rfl).drop (List.sublist_append_left _ _)
            refine OPS.nil ?_
            refine ⟨(by exact H), ?_⟩
            refine OPH.take 23 rfl rfl rfl rfl (by kernel_rfl) (by kernel_rfl) (by kernel_rfl) rfl (by exact H) (fun w H => Ev.fieldAddr (fld_run rfl) rfl) ?_
            refine OPH.all [24] (by kernel_rfl) (by simp) rfl ?_
            intro i hi; simp only [List.mem_cons, List.not_mem_nil, or_false] at hi
            rcases hi with rfl
            · refine ⟨_, rfl, ?_⟩
              refine OPS.store 1 _ rfl rfl rfl (size_run rfl) rfl (cS rfl) rfl rfl Hf rfl (by simp) ?_
              clear H Hf; intro w Hf
              replace Hf := Hf.drop (L' := [⟨g7, 24, [I m, .slice A' (j + 1) cap']⟩, ⟨g2, 24, [I m, .slice (some ⟨b, o, none⟩) l.length cap]⟩] ++ Lo) (List.sublist_cons_self _ _)
              have H : SH w0 [] w [⟨g2, 24, [I m, .slice (some ⟨b, o, none⟩) l.length cap]⟩] := (Hf.reidxT (L := [_, _]) (L' := [⟨g2, 24, [I m, .slice (some ⟨b, o, none⟩) l.length cap]⟩]) [1] (by decide) rfl).drop (List.sublist_append_left _ _)
              refine OPS.nil ?_
              refine ⟨(by exact H), ?_⟩
              refine OPH.done (by kernel_rfl) ?_
              exact ⟨(by repeat (first | exact Agree.refl _ _ | exact Agree.mix _ _ _ | refine Agree.upd rfl ?_ | refine Agree.mix2 rfl ?_)), A', cap', Lo, hO, Hf⟩
    clear H
    rintro u w ⟨A', cap', Lo, hO, H⟩
    refine WP.region ?_
    refine OPS.val rfl rfl rfl (Ev.mvI rfl) ?_
    refine OPS.val rfl rfl rfl (Ev.add rfl rfl (by unfold fits; omega)) ?_
    refine OPS.val rfl rfl rfl (Ev.asI rfl) ?_
    refine OPS.nil ?_
    exact ⟨(by repeat (first | exact Agree.refl _ _ | exact Agree.mix _ _ _ | refine Agree.upd rfl ?_ | refine Agree.mix2 rfl ?_)), k - 1, by omega, j + 1, A', cap', Lo, by omega, rfl, by rw [el]; exact hO, H⟩
  have hj : j = l.length := by simp at hc8; omega
  subst hj
  rw [List.take_length] at hO
  have hrl : (l.map rv).length = l.length := by simp
  have hz2 := (hO.rows edgCells_len (by decide) H).1
  rw [← hrl] at H
  refine WP.exit ?_
  refine XB.hit ?_
  refine WP.seq ?_
  refine WP.region ?_
  refine OPS.val rfl rfl rfl ((by exact Ev.loadO 0 H rfl (agg_run rfl) (size_run rfl) (by rfl) rfl)) ?_
  refine OPS.val rfl rfl rfl (Ev.mvI rfl) ?_
  refine OPS.call (d := some 58) rfl rfl rfl (EvC.func (fun_run rfl)) (r8To m s A' (l.map rv) cap' K D w hok.rv hsm (by rw [rv_rv]; exact hR) hz2) ?_
  rintro _ w ⟨gd, ge, d, ed, rfl, hdl, hdv, Hc⟩
  refine ⟨_, rfl, ?_⟩
  replace H := SH.call (Lv := []) (by rw [List.append_nil]; exact H) Hc
  clear Hc
  have hnd := hok.n2
  have htl := timesL_length m l s
  have hml : (timesL m l s).length = d.length := by omega
  refine OPS.val rfl rfl rfl (Ev.mvT rfl) ?_
  refine OPS.val rfl rfl rfl (Ev.extract rfl rfl) ?_
  refine OPS.val rfl rfl rfl (Ev.extract rfl rfl) ?_
  refine OPS.val rfl rfl rfl (Ev.asS rfl) ?_
  refine OPS.val rfl rfl rfl (Ev.asS rfl) ?_
  refine OPS.nil ?_
  refine WP.seq ?_
  refine WP.seq ?_
  refine WP.region ?_
  refine OPS.val rfl rfl rfl (Ev.asI rfl) ?_
  refine OPS.nil ?_
  refine WP.block ?_
  refine WP.loop [11, 61, 62, 63, 64, 65, 66, 67, 68, 69, 70, 71, 72, 73, 74] (fun k e w' => ∃ q : Nat, q + k = m ∧ e 11 = I q ∧ SH w0 [] w' [⟨gd, 3, (mixL (timesL m l s) d q).map I⟩]) (m) (⟨0, by omega, rfl, by rw [mixL_zero]; exact H.drop (L' := [_]) (by simp)⟩) ?_
  clear H
  rintro k u w ⟨q, hk, h11, H⟩
  refine WP.know (t := 11) h11 ?_
  refine WP.seq ?_
  refine WP.seq ?_
  refine WP.region ?_
  refine OPS.val rfl rfl rfl (Ev.mvI rfl) ?_
  refine OPS.val rfl rfl rfl (Ev.mvS rfl) ?_
  refine OPS.val rfl rfl rfl (Ev.len (el_run rfl) rfl) ?_
  refine OPS.val rfl rfl rfl (Ev.lss rfl rfl) ?_
  refine OPS.nil ?_
  refine WP.cond rfl (fun hc13 => ?_) (fun hc13 => ?_)
  · have hqm : q < m := by simp at hc13; omega
    have hmx : (mixL (timesL m l s) d q).length = m := by rw [mixL_length hml (by omega)]; exact htl
    have hms := mixL_set (m := d) hml (show q < (timesL m l s).length by omega)
    have hdq : (mixL (timesL m l s) d q)[q]'(by omega) = d[q]'(by omega) := List.getElem_of_getElem? (by rw [mixL_get hml (by omega)]; exact List.getElem?_eq_getElem (by omega)) |>.2
    have hfa := farAway hok hR hdl hdv hqm
    have hx := (onesOwn H 0 rfl).atK (show q < (mixL (timesL m l s) d q).length by omega)
    rw [hdq] at hx
    have hpu : putL ((mixL (timesL m l s) d q).map I) (0 + q) [I (-1)] = ((mixL (timesL m l s) d q).set q (-1)).map I := by rw [Nat.zero_add, putL_ones]
    refine WP.skip ?_
    refine WP.seq ?_
    refine WP.block ?_
    refine WP.seq ?_
    refine WP.region ?_
    refine OPS.val rfl rfl rfl (Ev.mvS rfl) ?_
    refine OPS.val rfl rfl rfl (Ev.mvI rfl) ?_
    refine OPS.val rfl rfl rfl ((by exact Ev.indexAddr1 (el_run rfl) (size_run rfl) rfl rfl rfl (by omega))) ?_
    refine OPS.val rfl rfl rfl (Ev.load1 (agg_run rfl) rfl (by assumption)) ?_
    refine OPS.val rfl rfl rfl (Ev.eql rfl rfl) ?_
    refine OPS.nil ?_
    refine WP.cond rfl (fun hc15 => ?_) (fun hc15 => ?_)
    · have h1 : d[q]'(by omega) = 1099511627776 := by simpa using hc15
      rw [if_pos h1] at hfa
      refine WP.region ?_
      refine OPS.val rfl rfl rfl (Ev.mvS rfl) ?_
      refine OPS.val rfl rfl rfl (Ev.mvI rfl) ?_
      refine OPS.val rfl rfl rfl ((by exact Ev.indexAddr1 (el_run rfl) (size_run rfl) rfl rfl rfl (by omega))) ?_
      refine OPS.store (vs := [I (-1)]) 0 _ rfl rfl rfl (size_run rfl) rfl (cI rfl) rfl rfl H rfl (by simp only [List.length_map]; omega) ?_
      clear H; intro w H
      simp only [List.set_cons_zero, List.set_cons_succ] at H
      rw [hpu, ← hfa, hms] at H
      refine OPS.nil ?_
      refine WP.region ?_
      refine OPS.val rfl rfl rfl (Ev.mvI rfl) ?_
      refine OPS.val rfl rfl rfl (Ev.add rfl rfl (by unfold fits; omega)) ?_
      refine OPS.val rfl rfl rfl (Ev.asI rfl) ?_
      refine OPS.nil ?_
      exact ⟨(by repeat (first | exact Agree.refl _ _ | exact Agree.mix _ _ _ | refine Agree.upd rfl ?_ | refine Agree.mix2 rfl ?_)), k - 1, by omega, q + 1, by omega, rfl, H⟩
    have h1 : ¬ d[q]'(by omega) = 1099511627776 := by simpa using hc15
    rw [if_neg h1] at hfa
    have hsame : mixL (timesL m l s) d (q + 1) = mixL (timesL m l s) d q := by rw [← hms, hfa, ← hdq, List.set_getElem_self]
    rw [← hsame] at H
    refine WP.skip ?_
    refine WP.region ?_
    refine OPS.val rfl rfl rfl (Ev.mvI rfl) ?_
    refine OPS.val rfl rfl rfl (Ev.add rfl rfl (by unfold fits; omega)) ?_
    refine OPS.val rfl rfl rfl (Ev.asI rfl) ?_
    refine OPS.nil ?_
    exact ⟨(by repeat (first | exact Agree.refl _ _ | exact Agree.mix _ _ _ | refine Agree.upd rfl ?_ | refine Agree.mix2 rfl ?_)), k - 1, by omega, q + 1, by omega, rfl, H⟩
  refine WP.exit ?_
  refine XB.hit ?_
  refine WP.seq ?_
  refine WP.region ?_
  refine OPS.val rfl rfl rfl (Ev.mvS rfl) ?_
  refine OPS.val rfl rfl rfl (Ev.asS rfl) ?_
  refine OPS.val rfl rfl rfl (Ev.asI rfl) ?_
  refine OPS.nil ?_
  refine WP.ret ⟨_, rfl, ?_⟩
  have hq : q = m := by simp at hc13; omega
  have hma := mixL_all hml
  rw [htl] at hma
  rw [hq, hma] at H
  exact ⟨some ⟨gd, 0, none⟩, _, by rw [he, ht, timesL_length]; rfl, by rw [ht]; exact OwnL.mk gd _, H⟩
end Go.Proofs.Ytfddebpeiilohaa
