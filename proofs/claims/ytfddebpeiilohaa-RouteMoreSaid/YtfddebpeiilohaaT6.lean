/-
  Walk: the reference's Times.
-/
import Derived.Test.YtfddebpeiilohaaT2
set_option linter.all false
namespace Go.Proofs.Ytfddebpeiilohaa
open Go Go.W Go.RowKit

/-- the list of least times, with the far value put away up to q -/
theorem farAway {n : Nat} {l : List Edg} {s : Nat} {K : Nat → Bool} {D : Nat → Int} (hok : RoadOk n l) (hR : RD l n s K D) {d : List Int} (hd : d.length = n) (hall : ∀ v, v < n → dAt d v = if K v = true then D v else 1099511627776) {q : Nat} (hq : q < n) :
    (timesL n l s)[q]'(by rw [timesL_length]; exact hq) = if d[q]'(by omega) = 1099511627776 then -1 else d[q]'(by omega) := by
  have h1 := hall q hq
  have h2 : dAt d q = d[q]'(by omega) := by simp [dAt, hd, hq]
  rw [timesL_at, roadT_eq hok hR hq, ← h2, h1]
  cases hk : K q with
  | true =>
    have := hR.small hok hq hk
    simp only [if_true]
    rw [if_neg (by omega)]
  | false => simp

set_option maxHeartbeats 1000000 in
theorem r8Times (n k : Int) (A : Option Addr) (l : List Edg) (cap : Nat) (w0 : World) (hz : EdgsAt w0 A l) :
    Calls Try.prog 66 #[.agg #[I n, .slice A l.length cap], I k] w0 fun e w' => ∃ (C : Option Addr) (Lc : List Blk), e = .returned (.tuple #[.slice C (timesOf n l k).length (timesOf n l k).length, I (timesErr n l k)]) ∧ OwnL 3 I C (timesOf n l k) Lc ∧ SH w0 [] w' Lc := by
  have H := SH.refl w0
  refine Calls.ofWP Try.func66 rfl Try.results66 Try.ntmps66 rfl ?_
  refine WP.seq ?_
  refine WP.region ?_
  refine OPS.box rfl rfl rfl rfl (cA rfl) H ?_
  clear H; intro g2 w H
  refine OPS.val rfl rfl rfl (Ev.asS rfl) ?_
  refine OPS.val rfl rfl rfl (Ev.asI rfl) ?_
  refine OPS.nil ?_
  refine WP.seq ?_
  refine WP.seq ?_
  refine WP.region ?_
  refine OPS.val rfl rfl rfl ((by exact Ev.loadO 0 H rfl (agg_run rfl) (size_run rfl) (by rfl) rfl)) ?_
  refine OPS.call (d := some 13) rfl rfl rfl (EvC.func (fun_run rfl)) (r8Check n A l cap w (hz.sh H)) ?_
  rintro _ w ⟨rfl, hb⟩
  refine ⟨_, rfl, ?_⟩
  replace H := H.toBelow hb; clear hb
  refine OPS.val rfl rfl rfl (Ev.asI rfl) ?_
  refine OPS.nil ?_
  refine WP.seq ?_
  refine WP.region ?_
  refine OPS.val rfl rfl rfl (Ev.mvI rfl) ?_
  refine OPS.val rfl rfl rfl (Ev.neq rfl rfl) ?_
  refine OPS.nil ?_
  refine WP.cond rfl (fun hc2 => ?_) (fun hc2 => ?_)
  · refine WP.seq ?_
    refine WP.region ?_
    refine OPS.val rfl rfl rfl (Ev.mvI rfl) ?_
    refine OPS.val rfl rfl rfl (Ev.asS rfl) ?_
    refine OPS.val rfl rfl rfl (Ev.asI rfl) ?_
    refine OPS.nil ?_
    refine WP.ret ⟨_, rfl, ?_⟩
    have h : roadErr n l ≠ 0 := by simpa using hc2
    have he : timesErr n l k = roadErr n l := by rw [timesErr, if_pos h]
    have ht : timesOf n l k = [] := by rw [timesOf, if_neg (by rw [he]; exact h)]
    exact ⟨none, [], by rw [ht, he]; rfl, by rw [ht]; exact OwnL.nil, H.reidx [] (by decide) rfl⟩
  have h0 : roadErr n l = 0 := by simpa using hc2
  refine WP.skip ?_
  refine WP.seq ?_
  refine WP.seq ?_
  refine WP.region ?_
  refine OPS.val rfl rfl rfl ((by exact Ev.loadO 0 H rfl (agg_run rfl) (size_run rfl) (by rfl) rfl)) ?_
  refine OPS.val rfl rfl rfl (Ev.mvI rfl) ?_
  refine OPS.call (d := some 19) rfl rfl rfl (EvC.func (fun_run rfl)) (r8Node n k _ _ _ _) ?_
  rintro _ w ⟨rfl, hb⟩
  refine ⟨_, rfl, ?_⟩
  replace H := H.toBelow hb; clear hb
  refine OPS.val rfl rfl rfl (Ev.not rfl) ?_
  refine OPS.nil ?_
  refine WP.cond rfl (fun hc4 => ?_) (fun hc4 => ?_)
  · refine WP.seq ?_
    refine WP.region ?_
    refine OPS.val rfl rfl rfl (Ev.asS rfl) ?_
    refine OPS.val rfl rfl rfl (Ev.asI rfl) ?_
    refine OPS.nil ?_
    refine WP.ret ⟨_, rfl, ?_⟩
    have hnn : isNode n k = false := by simpa using hc4
    have he : timesErr n l k = 7 := by rw [timesErr, if_neg (by simp [h0]), if_neg (by simp [hnn])]
    have ht : timesOf n l k = [] := by rw [timesOf, if_neg (by rw [he]; decide)]
    exact ⟨none, [], by rw [ht, he]; rfl, by rw [ht]; exact OwnL.nil, H.reidx [] (by decide) rfl⟩
  have hnn : isNode n k = true := by simpa using hc4
  have he : timesErr n l k = 0 := by rw [timesErr, if_neg (by simp [h0]), if_pos hnn]
  obtain ⟨m, s, rfl, rfl, hsm, hok⟩ := timesErr_ok he
  have ht : timesOf m l s = timesL m l s := by rw [timesOf, if_pos he]; simp
  have hll := hok.len
  obtain ⟨K, D, hR⟩ := rd_exists hok hsm
  refine WP.skip ?_
  refine WP.seq ?_
  refine WP.region ?_
  refine OPS.val rfl rfl rfl (Ev.fieldAddr (fld_run rfl) rfl) ?_
  refine OPS.val rfl rfl rfl (Ev.load1 (agg_run rfl) rfl (by exact H.ldL 0 rfl _ rfl)) ?_
  refine OPS.val rfl rfl rfl (Ev.build (bld_24_0 rfl)) ?_
  refine OPS.alloc rfl rfl rfl rfl (zero_run rfl) rfl H ?_
  clear H; intro g7 w H
  refine OPS.store 0 _ rfl rfl rfl (size_run rfl) rfl (cA rfl) rfl rfl H rfl (by simp) ?_
  clear H; intro w H; try simp only [List.set_cons_zero, List.set_cons_succ, putL, Nat.zero_add] at H
  refine OPS.nil ?_
  refine WP.seq ?_
  refine WP.seq ?_
  refine WP.region ?_
  refine OPS.val rfl rfl rfl (Ev.asI rfl) ?_
  refine OPS.nil ?_
  refine WP.block ?_
  refine WP.loop [8, 24, 25, 26, 27, 28, 29, 30, 31, 32, 33, 34, 35, 36, 37, 38, 39, 40, 41, 42, 43, 44, 45, 46, 47, 48, 49, 50, 51, 52, 53, 54] (fun k e w' => ∃ (j : Nat) (A' : Option Addr) (cap' : Nat) (Lo : List Blk), j + k = l.length ∧ e 8 = I j ∧ OwnS A' cap' j (((l.take j).map rv).flatMap edgCells) 72 3 Lo ∧ SH w0 [] w' ([⟨g7, 24, [I m, .slice A' j cap']⟩, ⟨g2, 24, [I m, .slice A l.length cap]⟩] ++ Lo)) (l.length) (⟨0, none, 0, [], by omega, rfl, OwnS.nil, H.reidx [0, 1] (by decide) rfl⟩) ?_
  clear H
  rintro k u w ⟨j, A', cap', Lo, hk, h8, hO, H⟩
  refine WP.know (t := 8) h8 ?_
  refine WP.seq ?_
  refine WP.seq ?_
  refine WP.region ?_
  refine OPS.val rfl rfl rfl (Ev.mvI rfl) ?_
  refine OPS.val rfl rfl rfl (Ev.fieldAddr (fld_run rfl) rfl) ?_
  refine OPS.val rfl rfl rfl (Ev.load1 (agg_run rfl) rfl (by exact H.ldL 1 rfl _ rfl)) ?_
  refine OPS.val rfl rfl rfl (Ev.len (el_run rfl) rfl) ?_
  refine OPS.val rfl rfl rfl (Ev.lss rfl rfl) ?_
  refine OPS.nil ?_
  refine WP.cond rfl (fun hc8 => ?_) (fun hc8 => ?_)
  · have hlt : j < l.length := by simpa using hc8
    obtain ⟨b, o, rfl, hc⟩ := hz j hlt
    have el : ((l.take (j + 1)).map rv).flatMap edgCells = ((l.take j).map rv).flatMap edgCells ++ edgCells (rv l[j]) := by rw [List.take_succ_eq_append_getElem hlt, List.map_append, List.flatMap_append]; rfl
    have hf0 : w0.cell? ⟨b, o + j * 3, none⟩ = some (I l[j].f) := hc.1
    have hf1 : w0.cell? ⟨b, o + j * 3 + 1, none⟩ = some (I l[j].t) := hc.2.1
    have hf2 : w0.cell? ⟨b, o + j * 3 + 2, none⟩ = some (I l[j].secs) := hc.2.2.1
    refine WP.skip ?_
    refine WP.seq ?_
    refine WP.block ?_
    have Hf := H
    replace H : SH w0 [] w [⟨g2, 24, [I m, .slice (some ⟨b, o, none⟩) l.length cap]⟩] := (H.reidxT (L := [_, _]) (L' := [⟨g2, 24, [I m, .slice (some ⟨b, o, none⟩) l.length cap]⟩]) [1] (by decide) rfl).drop (List.sublist_append_left _ _)
    refine WP.rheldC [31, 32, 33, 34, 35, 36, 37, 38, 39, 40, 41, 42, 43, 44, 45, 46, 47, 48, 49, 50, 51, 52, 53, 54] (fun _ w' => ∃ (A' : Option Addr) (cap' : Nat) (Lo : List Blk), OwnS A' cap' (j + 1) (((l.take j).map rv).flatMap edgCells ++ edgCells (rv l[j])) 72 3 Lo ∧ SH w0 [] w' ([⟨g7, 24, [I m, .slice A' (j + 1) cap']⟩, ⟨g2, 24, [I m, .slice (some ⟨b, o, none⟩) l.length cap]⟩] ++ Lo)) mixed H ?_ ?_
    · clear H; intro w hbw10 H
      refine OPH.take 0 rfl rfl rfl rfl (by kernel_rfl) (by kernel_rfl) (by kernel_rfl) rfl (by exact H) (fun w H => Ev.fieldAddr (fld_run rfl) rfl) ?_
      refine OPH.take 2 rfl rfl rfl rfl (by kernel_rfl) (by kernel_rfl) (by kernel_rfl) rfl (by exact H) (fun w H => Ev.fieldAddr (fld_run rfl) rfl) ?_
      refine OPH.take 3 rfl rfl rfl rfl (by kernel_rfl) (by kernel_rfl) (by kernel_rfl) rfl (by exact H) (fun w H => Ev.load1 (agg_run rfl) rfl (by exact H.ldL 0 rfl _ rfl)) ?_
      refine OPH.take 4 rfl rfl rfl rfl (by kernel_rfl) (by kernel_rfl) (by kernel_rfl) rfl (by exact H) (fun w H => Ev.mvI rfl) ?_
      refine OPH.take 5 rfl rfl rfl rfl (by kernel_rfl) (by kernel_rfl) (by kernel_rfl) rfl (by exact H) (fun w H => (by exact Ev.indexAddr (el_run rfl) (size_run rfl) rfl rfl rfl (by omega))) ?_
      refine OPH.take 6 rfl rfl rfl rfl (by kernel_rfl) (by kernel_rfl) (by kernel_rfl) rfl (by exact H) (fun w H => Ev.fieldAddr (fld_run rfl) rfl) ?_
      refine OPH.take 7 rfl rfl rfl rfl (by kernel_rfl) (by kernel_rfl) (by kernel_rfl) rfl (by exact H) (fun w H => Ev.load1 (agg_run rfl) rfl (by exact H.ld0 (by assumption))) ?_
      refine OPH.take 8 rfl rfl rfl rfl (by kernel_rfl) (by kernel_rfl) (by kernel_rfl) rfl (by exact H) (fun w H => Ev.fieldAddr (fld_run rfl) rfl) ?_
      refine OPH.take 9 rfl rfl rfl rfl (by kernel_rfl) (by kernel_rfl) (by kernel_rfl) rfl (by exact H) (fun w H => Ev.load1 (agg_run rfl) rfl (by exact H.ldL 0 rfl _ rfl)) ?_
      refine OPH.take 10 rfl rfl rfl rfl (by kernel_rfl) (by kernel_rfl) (by kernel_rfl) rfl (by exact H) (fun w H => Ev.mvI rfl) ?_
      refine OPH.take 11 rfl rfl rfl rfl (by kernel_rfl) (by kernel_rfl) (by kernel_rfl) rfl (by exact H) (fun w H => (by exact Ev.indexAddr (el_run rfl) (size_run rfl) rfl rfl rfl (by omega))) ?_
      refine OPH.take 12 rfl rfl rfl rfl (by kernel_rfl) (by kernel_rfl) (by kernel_rfl) rfl (by exact H) (fun w H => Ev.fieldAddr (fld_run rfl) rfl) ?_
      refine OPH.take 13 rfl rfl rfl rfl (by kernel_rfl) (by kernel_rfl) (by kernel_rfl) rfl (by exact H) (fun w H => Ev.load1 (agg_run rfl) rfl (by exact H.ld0 (by assumption))) ?_
      refine OPH.take 14 rfl rfl rfl rfl (by kernel_rfl) (by kernel_rfl) (by kernel_rfl) rfl (by exact H) (fun w H => Ev.fieldAddr (fld_run rfl) rfl) ?_
      refine OPH.take 15 rfl rfl rfl rfl (by kernel_rfl) (by kernel_rfl) (by kernel_rfl) rfl (by exact H) (fun w H => Ev.load1 (agg_run rfl) rfl (by exact H.ldL 0 rfl _ rfl)) ?_
      refine OPH.take 16 rfl rfl rfl rfl (by kernel_rfl) (by kernel_rfl) (by kernel_rfl) rfl (by exact H) (fun w H => Ev.mvI rfl) ?_
      refine OPH.take 17 rfl rfl rfl rfl (by kernel_rfl) (by kernel_rfl) (by kernel_rfl) rfl (by exact H) (fun w H => (by exact Ev.indexAddr (el_run rfl) (size_run rfl) rfl rfl rfl (by omega))) ?_
      refine OPH.take 18 rfl rfl rfl rfl (by kernel_rfl) (by kernel_rfl) (by kernel_rfl) rfl (by exact H) (fun w H => Ev.fieldAddr (fld_run rfl) rfl) ?_
      refine OPH.take 19 rfl rfl rfl rfl (by kernel_rfl) (by kernel_rfl) (by kernel_rfl) rfl (by exact H) (fun w H => Ev.load1 (agg_run rfl) rfl (by exact H.ld0 (by assumption))) ?_
      refine OPH.take 20 rfl rfl rfl rfl (by kernel_rfl) (by kernel_rfl) (by kernel_rfl) rfl (by exact H) (fun w H => Ev.build (bld_72_0_1_2 rfl rfl rfl)) ?_
      refine OPH.all [1, 21] (by kernel_rfl) (by simp) rfl ?_
      intro i hi; simp only [List.mem_cons, List.not_mem_nil, or_false] at hi
      rcases hi with rfl | rfl
      · refine ⟨_, rfl, ?_⟩
        try replace Hf := Hf.toBelow hbw10
        refine OPS.val rfl rfl rfl (Ev.load1 (agg_run rfl) rfl (by exact Hf.ldL 0 rfl 1 rfl)) ?_
        refine OPS.nil ?_
        refine ⟨(by exact H), ?_⟩
        refine OPH.all [21] (by kernel_rfl) (by simp) rfl ?_
        intro i hi; simp only [List.mem_cons, List.not_mem_nil, or_false] at hi
        rcases hi with rfl
        · refine ⟨_, rfl, ?_⟩
          try replace Hf := Hf.toBelow hbw10
          refine OPS.buildSlice rfl rfl rfl rfl (bsl_22_1_0 rfl) Hf ?_
          clear H Hf; intro g52 w Hf
          have H : SH w0 [] w [⟨g2, 24, [I m, .slice (some ⟨b, o, none⟩) l.length cap]⟩] := (Hf.reidxT (L := [_, _, _]) (L' := [⟨g2, 24, [I m, .slice (some ⟨b, o, none⟩) l.length cap]⟩]) [2] (by decide) rfl).drop (List.sublist_append_left _ _)
          refine OPS.nil ?_
          refine ⟨(by exact H), ?_⟩
          refine OPH.all [22] (by kernel_rfl) (by simp) rfl ?_
          intro i hi; simp only [List.mem_cons, List.not_mem_nil, or_false] at hi
          rcases hi with rfl
          · refine ⟨_, rfl, ?_⟩
            refine OPS.append (m := 1) (news := edgCells (rv l[j])) (R := [⟨g52, 72, edgCells (rv l[j])⟩, ⟨g7, 24, [I m, .slice A' j cap']⟩, ⟨g2, 24, [I m, .slice (some ⟨b, o, none⟩) l.length cap]⟩]) rfl rfl rfl rfl rfl (sl_run rfl) rfl rfl hO rfl (src_own Hf 0 rfl) rfl (by omega) (by unfold maxLen; omega) Hf (List.Perm.refl _) ?_
            clear H Hf hO; intro A' cap' Lo w hO Hf
            have H : SH w0 [] w [⟨g2, 24, [I m, .slice (some ⟨b, o, none⟩) l.length cap]⟩] := (Hf.reidxT (L := [_, _, _]) (L' := [⟨g2, 24, [I m, .slice (some ⟨b, o, none⟩) l.length cap]⟩]) [2] (by decide) rfl).drop (List.sublist_append_left _ _)
            refine OPS.nil ?_
            refine ⟨(by exact H), ?_⟩
            refine OPH.take 23 rfl rfl rfl rfl (by kernel_rfl) (by kernel_rfl) (by kernel_rfl) rfl (by exact H) (fun w H => Ev.fieldAddr (fld_run rfl) rfl) ?_
            refine OPH.all [24] (by kernel_rfl) (by simp) rfl ?_
            intro i hi; simp only [List.mem_cons, List.not_mem_nil, or_false] at hi
            rcases hi with rfl
            · refine ⟨_, rfl, ?_⟩
              refine OPS.store 1 _ rfl rfl rfl (size_run rfl) rfl (cS rfl) rfl rfl Hf rfl (by simp) ?_
              clear H Hf; intro w Hf
              replace Hf := Hf.drop (L' := [⟨g7, 24, [I m, .slice A' (j + 1) cap']⟩, ⟨g2, 24, [I m, .slice (some ⟨b, o, none⟩) l.length cap]⟩] ++ Lo) (List.sublist_cons_self _ _)
              have H : SH w0 [] w [⟨g2, 24, [I m, .slice (some ⟨b, o, none⟩) l.length cap]⟩] := (Hf.reidxT (L := [_, _]) (L' := [⟨g2, 24, [I m, .slice (some ⟨b, o, none⟩) l.length cap]⟩]) [1] (by decide) rfl).drop (List.sublist_append_left _ _)
              refine OPS.nil ?_
              refine ⟨(by exact H), ?_⟩
              refine OPH.done (by kernel_rfl) ?_
              exact ⟨(by repeat (first | exact Agree.refl _ _ | exact Agree.mix _ _ _ | refine Agree.upd rfl ?_ | refine Agree.mix2 rfl ?_)), A', cap', Lo, hO, Hf⟩
      · refine ⟨_, rfl, ?_⟩
        try replace Hf := Hf.toBelow hbw10
        refine OPS.buildSlice rfl rfl rfl rfl (bsl_22_1_0 rfl) Hf ?_
        clear H Hf; intro g52 w Hf
        have H : SH w0 [] w [⟨g2, 24, [I m, .slice (some ⟨b, o, none⟩) l.length cap]⟩] := (Hf.reidxT (L := [_, _, _]) (L' := [⟨g2, 24, [I m, .slice (some ⟨b, o, none⟩) l.length cap]⟩]) [2] (by decide) rfl).drop (List.sublist_append_left _ _)
        refine OPS.nil ?_
        refine ⟨(by exact H), ?_⟩
        refine OPH.all [1] (by kernel_rfl) (by simp) rfl ?_
        intro i hi; simp only [List.mem_cons, List.not_mem_nil, or_false] at hi
        rcases hi with rfl
        · refine ⟨_, rfl, ?_⟩
          try replace Hf := Hf.toBelow hbw10
          refine OPS.val rfl rfl rfl (Ev.load1 (agg_run rfl) rfl (by exact Hf.ldL 1 rfl 1 rfl)) ?_
          refine OPS.nil ?_
          refine ⟨(by exact H), ?_⟩
          refine OPH.all [22] (by kernel_rfl) (by simp) rfl ?_
          intro i hi; simp only [List.mem_cons, List.not_mem_nil, or_false] at hi
          rcases hi with rfl
          · refine ⟨_, rfl, ?_⟩
            refine OPS.append (m := 1) (news := edgCells (rv l[j])) (R := [⟨g52, 72, edgCells (rv l[j])⟩, ⟨g7, 24, [I m, .slice A' j cap']⟩, ⟨g2, 24, [I m, .slice (some ⟨b, o, none⟩) l.length cap]⟩]) rfl rfl rfl rfl rfl (sl_run rfl) rfl rfl hO rfl (src_own Hf 0 rfl) rfl (by omega) (by unfold maxLen; omega) Hf (List.Perm.refl _) ?_
            clear H Hf hO; intro A' cap' Lo w hO Hf
            have H : SH w0 [] w [⟨g2, 24, [I m, .slice (some ⟨b, o, none⟩) l.length cap]⟩] := (Hf.reidxT (L := [_, _, _]) (L' := [⟨g2, 24, [I m, .slice (some ⟨b, o, none⟩) l.length cap]⟩]) [2] (by decide) rfl).drop (List.sublist_append_left _ _)
            refine OPS.nil ?_
            refine ⟨(by exact H), ?_⟩
            refine OPH.take 23 rfl rfl rfl rfl (by kernel_rfl) (by kernel_rfl) (by kernel_rfl) rfl (by exact H) (fun w H => Ev.fieldAddr (fld_run rfl) rfl) ?_
            refine OPH.all [24] (by kernel_rfl) (by simp) rfl ?_
            intro i hi; simp only [List.mem_cons, List.not_mem_nil, or_false] at hi
            rcases hi with rfl
            · refine ⟨_, rfl, ?_⟩
              refine OPS.store 1 _ rfl rfl rfl (size_run rfl) rfl (cS rfl) rfl rfl Hf rfl (by simp) ?_
              clear H Hf; intro w Hf
              replace Hf := Hf.drop (L' := [⟨g7, 24, [I m, .slice A' (j + 1) cap']⟩, ⟨g2, 24, [I m, .slice (some ⟨b, o, none⟩) l.length cap]⟩] ++ Lo) (List.sublist_cons_self _ _)
              have H : SH w0 [] w [⟨g2, 24, [I m, .slice (some ⟨b, o, none⟩) l.length cap]⟩] := (Hf.reidxT (L := [_, _]) (L' := [⟨g2, 24, [I m, .slice (some ⟨b, o, none⟩) l.length cap]⟩]) [1] (by decide) rfl).drop (List.sublist_append_left _ _)
              refine OPS.nil ?_
              refine ⟨(by exact H), ?_⟩
              refine OPH.done (by kernel_rfl) ?_
              exact ⟨(by repeat (first | exact Agree.refl _ _ | exact Agree.mix _ _ _ | refine Agree.upd rfl ?_ | refine Agree.mix2 rfl ?_)), A', cap', Lo, hO, Hf⟩
    clear H
    rintro u w ⟨A', cap', Lo, hO, H⟩
    refine WP.region ?_
    refine OPS.val rfl rfl rfl (Ev.mvI rfl) ?_
    refine OPS.val rfl rfl rfl (Ev.add rfl rfl (by unfold fits; omega)) ?_
    refine OPS.val rfl rfl rfl (Ev.asI rfl) ?_
    refine OPS.nil ?_
    exact ⟨(by repeat (first | exact Agree.refl _ _ | exact Agree.mix _ _ _ | refine Agree.upd rfl ?_ | refine Agree.mix2 rfl ?_)), k - 1, by omega, j + 1, A', cap', Lo, by omega, rfl, by rw [el]; exact hO, H⟩
  have hj : j = l.length := by simp at hc8; omega
  subst hj
  rw [List.take_length] at hO
  have hrl : (l.map rv).length = l.length := by simp
  have hz2 := (hO.rows edgCells_len (by decide) H).1
  rw [← hrl] at H
  refine WP.exit ?_
  refine XB.hit ?_
  refine WP.seq ?_
  refine WP.region ?_
  refine OPS.val rfl rfl rfl ((by exact Ev.loadO 0 H rfl (agg_run rfl) (size_run rfl) (by rfl) rfl)) ?_
  refine OPS.val rfl rfl rfl (Ev.mvI rfl) ?_
  refine OPS.call (d := some 58) rfl rfl rfl (EvC.func (fun_run rfl)) (r8To m s A' (l.map rv) cap' K D w hok.rv hsm (by rw [rv_rv]; exact hR) hz2) ?_
  rintro _ w ⟨gd, ge, d, ed, rfl, hdl, hdv, Hc⟩
  refine ⟨_, rfl, ?_⟩
  replace H := SH.call (Lv := []) (by rw [List.append_nil]; exact H) Hc
  clear Hc
  have hnd := hok.n2
  have htl := timesL_length m l s
  have hml : (timesL m l s).length = d.length := by omega
  refine OPS.val rfl rfl rfl (Ev.mvT rfl) ?_
  refine OPS.val rfl rfl rfl (Ev.extract rfl rfl) ?_
  refine OPS.val rfl rfl rfl (Ev.extract rfl rfl) ?_
  refine OPS.val rfl rfl rfl (Ev.asS rfl) ?_
  refine OPS.val rfl rfl rfl (Ev.asS rfl) ?_
  refine OPS.nil ?_
  refine WP.seq ?_
  refine WP.seq ?_
  refine WP.region ?_
  refine OPS.val rfl rfl rfl (Ev.asI rfl) ?_
  refine OPS.nil ?_
  refine WP.block ?_
  refine WP.loop [11, 61, 62, 63, 64, 65, 66, 67, 68, 69, 70, 71, 72, 73, 74] (fun k e w' => ∃ q : Nat, q + k = m ∧ e 11 = I q ∧ SH w0 [] w' [⟨gd, 3, (mixL (timesL m l s) d q).map I⟩]) (m) (⟨0, by omega, rfl, by rw [mixL_zero]; exact H.drop (L' := [_]) (by simp)⟩) ?_
  clear H
  rintro k u w ⟨q, hk, h11, H⟩
  refine WP.know (t := 11) h11 ?_
  refine WP.seq ?_
  refine WP.seq ?_
  refine WP.region ?_
  refine OPS.val rfl rfl rfl (Ev.mvI rfl) ?_
  refine OPS.val rfl rfl rfl (Ev.mvS rfl) ?_
  refine OPS.val rfl rfl rfl (Ev.len (el_run rfl) rfl) ?_
  refine OPS.val rfl rfl rfl (Ev.lss rfl rfl) ?_
  refine OPS.nil ?_
  refine WP.cond rfl (fun hc13 => ?_) (fun hc13 => ?_)
  · have hqm : q < m := by simp at hc13; omega
    have hmx : (mixL (timesL m l s) d q).length = m := by rw [mixL_length hml (by omega)]; exact htl
    have hms := mixL_set (m := d) hml (show q < (timesL m l s).length by omega)
    have hdq : (mixL (timesL m l s) d q)[q]'(by omega) = d[q]'(by omega) := List.getElem_of_getElem? (by rw [mixL_get hml (by omega)]; exact List.getElem?_eq_getElem (by omega)) |>.2
    have hfa := farAway hok hR hdl hdv hqm
    have hx := (onesOwn H 0 rfl).atK (show q < (mixL (timesL m l s) d q).length by omega)
    rw [hdq] at hx
    have hpu : putL ((mixL (timesL m l s) d q).map I) (0 + q) [I (-1)] = ((mixL (timesL m l s) d q).set q (-1)).map I := by rw [Nat.zero_add, putL_ones]
    refine WP.skip ?_
    refine WP.seq ?_
    refine WP.block ?_
    refine WP.seq ?_
    refine WP.region ?_
    refine OPS.val rfl rfl rfl (Ev.mvS rfl) ?_
    refine OPS.val rfl rfl rfl (Ev.mvI rfl) ?_
    refine OPS.val rfl rfl rfl ((by exact Ev.indexAddr1 (el_run rfl) (size_run rfl) rfl rfl rfl (by omega))) ?_
    refine OPS.val rfl rfl rfl (Ev.load1 (agg_run rfl) rfl (by assumption)) ?_
    refine OPS.val rfl rfl rfl (Ev.eql rfl rfl) ?_
    refine OPS.nil ?_
    refine WP.cond rfl (fun hc15 => ?_) (fun hc15 => ?_)
    · have h1 : d[q]'(by omega) = 1099511627776 := by simpa using hc15
      rw [if_pos h1] at hfa
      refine WP.region ?_
      refine OPS.val rfl rfl rfl (Ev.mvS rfl) ?_
      refine OPS.val rfl rfl rfl (Ev.mvI rfl) ?_
      refine OPS.val rfl rfl rfl ((by exact Ev.indexAddr1 (el_run rfl) (size_run rfl) rfl rfl rfl (by omega))) ?_
      refine OPS.store (vs := [I (-1)]) 0 _ rfl rfl rfl (size_run rfl) rfl (cI rfl) rfl rfl H rfl (by simp only [List.length_map]; omega) ?_
      clear H; intro w H
      simp only [List.set_cons_zero, List.set_cons_succ] at H
      rw [hpu, ← hfa, hms] at H
      refine OPS.nil ?_
      refine WP.region ?_
      refine OPS.val rfl rfl rfl (Ev.mvI rfl) ?_
      refine OPS.val rfl rfl rfl (Ev.add rfl rfl (by unfold fits; omega)) ?_
      refine OPS.val rfl rfl rfl (Ev.asI rfl) ?_
      refine OPS.nil ?_
      exact ⟨(by repeat (first | exact Agree.refl _ _ | exact Agree.mix _ _ _ | refine Agree.upd rfl ?_ | refine Agree.mix2 rfl ?_)), k - 1, by omega, q + 1, by omega, rfl, H⟩
    have h1 : ¬ d[q]'(by omega) = 1099511627776 := by simpa using hc15
    rw [if_neg h1] at hfa
    have hsame : mixL (timesL m l s) d (q + 1) = mixL (timesL m l s) d q := by rw [← hms, hfa, ← hdq, List.set_getElem_self]
    rw [← hsame] at H
    refine WP.skip ?_
    refine WP.region ?_
    refine OPS.val rfl rfl rfl (Ev.mvI rfl) ?_
    refine OPS.val rfl rfl rfl (Ev.add rfl rfl (by unfold fits; omega)) ?_
    refine OPS.val rfl rfl rfl (Ev.asI rfl) ?_
    refine OPS.nil ?_
    exact ⟨(by repeat (first | exact Agree.refl _ _ | exact Agree.mix _ _ _ | refine Agree.upd rfl ?_ | refine Agree.mix2 rfl ?_)), k - 1, by omega, q + 1, by omega, rfl, H⟩
  refine WP.exit ?_
  refine XB.hit ?_
  refine WP.seq ?_
  refine WP.region ?_
  refine OPS.val rfl rfl rfl (Ev.mvS rfl) ?_
  refine OPS.val rfl rfl rfl (Ev.asS rfl) ?_
  refine OPS.val rfl rfl rfl (Ev.asI rfl) ?_
  refine OPS.nil ?_
  refine WP.ret ⟨_, rfl, ?_⟩
  have hq : q = m := by simp at hc13; omega
  have hma := mixL_all hml
  rw [htl] at hma
  rw [hq, hma] at H
  exact ⟨some ⟨gd, 0, none⟩, _, by rw [he, ht, timesL_length]; rfl, by rw [ht]; exact OwnL.mk gd _, H⟩
end Go.Proofs.Ytfddebpeiilohaa

/-
  Walks: twice, IsSorted, Check of a night.
-/
set_option linter.all false
namespace Go.Proofs.Ytfddebpeiilohaa
open Go Go.W Go.RowKit

theorem onesTk {α : Type} {enc : α → Value} {w : World} {A : Option Addr} {l : List α} (h : OnesAt enc w A l) (j : Nat) : OnesAt enc w A (l.take j) := fun k hk => by
  obtain ⟨b, o, h1, h2⟩ := h k (by simp at hk; omega)
  exact ⟨b, o, h1, by rw [List.getElem_take]; exact h2⟩
theorem rowsTk {α : Type} {sz : Nat} {enc : α → List Value} {w : World} {A : Option Addr} {l : List α} (h : RowsAt sz enc w A l) (j : Nat) : RowsAt sz enc w A (l.take j) := fun k hk => by
  obtain ⟨b, o, h1, h2⟩ := h k (by simp at hk; omega)
  exact ⟨b, o, h1, by rw [List.getElem_take]; exact h2⟩
theorem slContainsT (A : Option Addr) (l : List Int) (j cap : Nat) (x : Int) (w0 : World) (hz : IntsAt w0 A l) (hj : j ≤ l.length) (hl : l.length ≤ maxLen) :
    Calls Try.prog 70 #[.slice A j cap, I x] w0 fun e w' => e = .returned (.bool (decide (x ∈ l.take j))) ∧ Below w0.heap.size w0 w' := by
  have h := slContains A (l.take j) cap x w0 (onesTk hz j) (by rw [List.length_take]; omega)
  rw [List.length_take, Nat.min_eq_left hj] at h; exact h
theorem slContainsFuncNT (A : Option Addr) (l : List Need) (j cap : Nat) (f : Nat) (caps : List Value) (p : Need → Bool) (w0 : World) (hz : RowsAt 2 needCells w0 A l) (hj : j ≤ l.length) (hl : l.length ≤ maxLen) (hfun : funT f = true)
    (hf : ∀ x ∈ l, ∀ w, Below w0.heap.size w0 w → Calls Try.prog f ([Value.agg (needCells x).toArray] ++ caps).toArray w fun e w' => e = .returned (.bool (p x)) ∧ Below w.heap.size w w') :
    Calls Try.prog 51 #[.slice A j cap, .func (.func f) #[] caps.toArray] w0 fun e w' => e = .returned (.bool ((l.take j).any p)) ∧ Below w0.heap.size w0 w' := by
  have h := slContainsFuncN A (l.take j) cap f caps p w0 (rowsTk hz j) (by rw [List.length_take]; omega) hfun (fun x hx => hf x (List.mem_of_mem_take hx))
  rw [List.length_take, Nat.min_eq_left hj] at h; exact h

def twiceB (l : List Int) : Bool := !decide l.Nodup
theorem nodup_take_succ {α : Type} {l : List α} {j : Nat} (hj : j < l.length) : (l.take (j + 1)).Nodup ↔ (l.take j).Nodup ∧ l[j] ∉ l.take j := by
  rw [List.take_succ_eq_append_getElem hj, List.nodup_append]
  constructor
  · rintro ⟨h1, _, h3⟩
    exact ⟨h1, fun hm => h3 _ hm _ (by simp) rfl⟩
  · rintro ⟨h1, h2⟩
    exact ⟨h1, by simp, fun a ha b hb he => by simp at hb; subst hb; subst he; exact h2 ha⟩
theorem nodup_of_take {α : Type} {l : List α} {j : Nat} (h : l.Nodup) : (l.take j).Nodup := h.sublist (List.take_sublist _ _)

theorem truckTwice (A : Option Addr) (l : List Int) (cap : Nat) (w0 : World) (hz : IntsAt w0 A l) (hl : l.length ≤ maxLen) (hcap : l.length ≤ cap) :
    Calls Try.prog 57 #[.slice A l.length cap] w0 fun e w' => e = .returned (.bool (twiceB l)) ∧ Below w0.heap.size w0 w' := by
  have H := SH.refl w0
  have hl' : l.length ≤ 9223372036854775807 := by unfold maxLen at hl; omega
  refine Calls.ofWP Try.func57 rfl Try.results57 Try.ntmps57 rfl ?_
  refine WP.seq ?_
  refine WP.region ?_
  refine OPS.val rfl rfl rfl (Ev.asB rfl) ?_
  refine OPS.nil ?_
  refine WP.seq ?_
  refine WP.seq ?_
  refine WP.region ?_
  refine OPS.val rfl rfl rfl (Ev.mvS rfl) ?_
  refine OPS.val rfl rfl rfl (Ev.len (el_run rfl) rfl) ?_
  refine OPS.val rfl rfl rfl (Ev.mvI rfl) ?_
  refine OPS.nil ?_
  refine WP.block ?_
  refine WP.loop [2, 3, 4, 7, 8, 9, 10, 11, 12, 13, 14, 15, 16, 17] (fun k e w' => ∃ j : Nat, j + k = l.length ∧ e 7 = I j ∧ SH w0 [] w' [] ∧ (l.take j).Nodup) (l.length) (⟨0, by omega, rfl, H, by simp⟩) ?_
  clear H
  rintro k u w ⟨j, hk, h7, H, hall⟩
  refine WP.know (t := 7) h7 ?_
  refine WP.seq ?_
  refine WP.region ?_
  refine OPS.val rfl rfl rfl (Ev.lss rfl rfl) ?_
  refine OPS.nil ?_
  refine WP.seq ?_
  refine WP.cond rfl (fun hc2 => ?_) (fun hc2 => ?_)
  · have hlt : j < l.length := by simpa using hc2
    obtain ⟨b, o, rfl, hx⟩ := hz j hlt
    have hnt := nodup_take_succ hlt
    refine WP.skip ?_
    refine WP.seq ?_
    refine WP.block ?_
    refine WP.seq ?_
    refine WP.region ?_
    refine OPS.val rfl rfl rfl (Ev.mvI rfl) ?_
    refine OPS.val rfl rfl rfl ((by exact Ev.indexAddr1 (el_run rfl) (size_run rfl) rfl rfl rfl (by omega))) ?_
    refine OPS.val rfl rfl rfl (Ev.load1 (agg_run rfl) rfl (by exact H.ld0 (by assumption))) ?_
    refine OPS.val rfl rfl rfl (Ev.asI rfl) ?_
    refine OPS.val rfl rfl rfl (Ev.asI rfl) ?_
    refine OPS.nil ?_
    refine WP.seq ?_
    refine WP.region ?_
    refine OPS.val rfl rfl rfl (Ev.mvS rfl) ?_
    refine OPS.val rfl rfl rfl (Ev.mvI rfl) ?_
    refine OPS.val rfl rfl rfl (Ev.sliceTo (j := j) (el_run rfl) ⟨1, size_run rfl⟩ rfl rfl rfl (by omega)) ?_
    refine OPS.val rfl rfl rfl (Ev.mvI rfl) ?_
    refine OPS.call (d := some 16) rfl rfl rfl (EvC.func (fun_run rfl)) (slContainsT _ l j cap l[j] w (hz.sh H) (by omega) hl) ?_
    rintro _ w ⟨rfl, hb⟩
    refine ⟨_, rfl, ?_⟩
    replace H := H.toBelow hb; clear hb
    refine OPS.nil ?_
    refine WP.cond rfl (fun hc4 => ?_) (fun hc4 => ?_)
    · refine WP.seq ?_
      refine WP.region ?_
      refine OPS.val rfl rfl rfl (Ev.asB rfl) ?_
      refine OPS.nil ?_
      refine WP.ret ⟨_, rfl, ?_⟩
      have he : l[j] ∈ l.take j := by simpa using hc4
      have : twiceB l = true := by
        unfold twiceB
        rw [Bool.not_eq_true', decide_eq_false_iff_not]
        exact fun h => (hnt.1 (nodup_of_take h)).2 he
      exact ⟨by rw [this]; rfl, H.below⟩
    refine WP.skip ?_
    refine WP.region ?_
    refine OPS.val rfl rfl rfl (Ev.add rfl rfl (by unfold fits; omega)) ?_
    refine OPS.val rfl rfl rfl (Ev.mvI rfl) ?_
    refine OPS.nil ?_
    have he : l[j] ∉ l.take j := by simpa using hc4
    exact ⟨(by repeat (first | exact Agree.refl _ _ | exact Agree.mix _ _ _ | refine Agree.upd rfl ?_ | refine Agree.mix2 rfl ?_)), k - 1, by omega, j + 1, by omega, rfl, H, hnt.2 ⟨hall, he⟩⟩
  refine WP.exit ?_
  refine XB.hit ?_
  refine WP.seq ?_
  refine WP.region ?_
  refine OPS.val rfl rfl rfl (Ev.asB rfl) ?_
  refine OPS.nil ?_
  refine WP.ret ⟨_, rfl, ?_⟩
  have hj : j = l.length := by simp at hc2; omega
  rw [hj, List.take_length] at hall
  exact ⟨by simp only [twiceB, hall, decide_true]; rfl, H.below⟩

end Go.Proofs.Ytfddebpeiilohaa

/-
  Walks: Check of a night.
-/
set_option linter.all false
namespace Go.Proofs.Ytfddebpeiilohaa
open Go Go.W Go.RowKit

structure Truck where
  depot : Int
  cap : Int
  from_ : Int
  to_ : Int
instance : Inhabited Truck := ⟨⟨0, 0, 0, 0⟩⟩
def truckCells (t : Truck) : List Value := [I t.depot, I t.cap, I t.from_, I t.to_]
theorem truckCells_len (t : Truck) : (truckCells t).length = 4 := rfl
def truckBad (n : Int) (t : Truck) : Bool := !inB t.depot 0 (n - 1)
def truckRange (t : Truck) : Bool := !inB t.cap 1 32 || decide (t.from_ < 0) || decide (t.to_ < t.from_) || decide (86400 < t.to_)
def trucksErr (n : Int) : List Truck → Int
  | [] => 0
  | t :: l => if truckBad n t = true then 7 else if truckRange t = true then 1 else trucksErr n l
def needBad (n : Int) (x : Need) : Bool := !inB x.node 0 (n - 1)
def needRange (x : Need) : Bool := decide (x.move = 0) || !inB x.move (-32) 32
def needsErr (n : Int) : List Need → Int
  | [] => 0
  | t :: l => if needBad n t = true then 7 else if needRange t = true then 1 else needsErr n l
theorem trucksErr_drop {n : Int} {l : List Truck} : ∀ {j : Nat}, j ≤ l.length → (∀ i (hi : i < l.length), i < j → truckBad n l[i] = false ∧ truckRange l[i] = false) → trucksErr n l = trucksErr n (l.drop j)
  | 0, _, _ => by simp
  | j + 1, hj, h => by
    rw [trucksErr_drop (j := j) (by omega) (fun i hi hij => h i hi (by omega)), List.drop_eq_getElem_cons (show j < l.length by omega), trucksErr]
    obtain ⟨h1, h2⟩ := h j (by omega) (by omega)
    rw [h1, h2]; simp
theorem needsErr_drop {n : Int} {l : List Need} : ∀ {j : Nat}, j ≤ l.length → (∀ i (hi : i < l.length), i < j → needBad n l[i] = false ∧ needRange l[i] = false) → needsErr n l = needsErr n (l.drop j)
  | 0, _, _ => by simp
  | j + 1, hj, h => by
    rw [needsErr_drop (j := j) (by omega) (fun i hi hij => h i hi (by omega)), List.drop_eq_getElem_cons (show j < l.length by omega), needsErr]
    obtain ⟨h1, h2⟩ := h j (by omega) (by omega)
    rw [h1, h2]; simp
theorem trucksErr_ok {n : Int} : ∀ {l : List Truck}, trucksErr n l = 0 → ∀ t ∈ l, truckBad n t = false ∧ truckRange t = false
  | [], _, _, h => by cases h
  | a :: l, h, t, ht => by
    rw [trucksErr] at h
    split at h
    · cases h
    · rename_i h1
      split at h
      · cases h
      · rename_i h2
        rcases List.mem_cons.1 ht with rfl | ht
        · exact ⟨by simpa using h1, by simpa using h2⟩
        · exact trucksErr_ok h t ht
theorem needsErr_ok {n : Int} : ∀ {l : List Need}, needsErr n l = 0 → ∀ t ∈ l, needBad n t = false ∧ needRange t = false
  | [], _, _, h => by cases h
  | a :: l, h, t, ht => by
    rw [needsErr] at h
    split at h
    · cases h
    · rename_i h1
      split at h
      · cases h
      · rename_i h2
        rcases List.mem_cons.1 ht with rfl | ht
        · exact ⟨by simpa using h1, by simpa using h2⟩
        · exact needsErr_ok h t ht
def needTwice (ns : List Need) : Bool := twiceB (ns.map (·.node))
def fullB (ts : List Truck) (ns : List Need) : Bool := decide ((8 : Int) < ts.length) || decide ((16 : Int) < ns.length)
def nightErr (n : Int) (l : List Edg) (ts : List Truck) (ns : List Need) (h : Int) : Int :=
  if roadErr n l ≠ 0 then roadErr n l else if fullB ts ns = true then 8 else if trucksErr n ts ≠ 0 then trucksErr n ts else if needsErr n ns ≠ 0 then needsErr n ns else if needTwice ns = true then 6 else if inB h 0 3600 = true then 0 else 1

theorem truckCheckF (y : Need) (g : Nat) (nd mv : Int) (w0 : World) (hc : w0.cell? ⟨g, 0, none⟩ = some (I nd)) :
    Calls Try.prog 52 #[.agg #[I y.node, I y.move], .pointer (some ⟨g, 0, none⟩)] w0 fun e w' => e = .returned (.bool (decide (y.node = nd))) ∧ Below w0.heap.size w0 w' := by
  have H := SH.refl w0
  refine Calls.ofWP Try.func52 rfl Try.results52 Try.ntmps52 rfl ?_
  refine WP.seq ?_
  refine WP.region ?_
  refine OPS.box rfl rfl rfl rfl (cA rfl) H ?_
  clear H; intro g2 w H
  refine OPS.val rfl rfl rfl (Ev.asB rfl) ?_
  refine OPS.nil ?_
  refine WP.seq ?_
  refine WP.region ?_
  refine OPS.val rfl rfl rfl (Ev.fieldAddr (fld_run rfl) rfl) ?_
  refine OPS.val rfl rfl rfl (Ev.load1 (agg_run rfl) rfl (by exact H.ldL 0 rfl _ rfl)) ?_
  refine OPS.val rfl rfl rfl (Ev.fieldAddr (fld_run rfl) rfl) ?_
  refine OPS.val rfl rfl rfl (Ev.load1 (agg_run rfl) rfl (by exact H.ld0 (by assumption))) ?_
  refine OPS.val rfl rfl rfl (Ev.eql rfl rfl) ?_
  refine OPS.val rfl rfl rfl (Ev.asB rfl) ?_
  refine OPS.nil ?_
  refine WP.ret ⟨_, rfl, ?_⟩
  exact ⟨rfl, H.below⟩
set_option maxHeartbeats 1000000 in
theorem truckCheck (n hd : Int) (A B C : Option Addr) (l : List Edg) (ts : List Truck) (ns : List Need) (ca cb cc : Nat) (w0 : World) (hz : EdgsAt w0 A l) (ht : RowsAt 4 truckCells w0 B ts) (hn : RowsAt 2 needCells w0 C ns) (hcc : ns.length ≤ cc) :
    Calls Try.prog 29 #[.agg #[I n, .slice A l.length ca, .slice B ts.length cb, .slice C ns.length cc, I hd]] w0 fun e w' => e = .returned (I (nightErr n l ts ns hd)) ∧ Below w0.heap.size w0 w' := by
  have H := SH.refl w0
  refine Calls.ofWP Try.func29 rfl Try.results29 Try.ntmps29 rfl ?_
  refine WP.seq ?_
  refine WP.region ?_
  refine OPS.box rfl rfl rfl rfl (cA rfl) H ?_
  clear H; intro g1 w H
  refine OPS.val rfl rfl rfl (Ev.asI rfl) ?_
  refine OPS.nil ?_
  refine WP.seq ?_
  refine WP.seq ?_
  refine WP.region ?_
  refine OPS.val rfl rfl rfl (Ev.fieldAddr (fld_run rfl) rfl) ?_
  refine OPS.val rfl rfl rfl ((by exact Ev.loadN [_, _] (agg_run rfl) (size_run rfl) rfl ⟨H.ldL 0 rfl _ rfl, H.ldL 0 rfl _ rfl, trivial⟩)) ?_
  refine OPS.call (d := some 12) rfl rfl rfl (EvC.func (fun_run rfl)) (roadCheck n A l ca w (hz.sh H)) ?_
  rintro _ w ⟨rfl, hb⟩
  refine ⟨_, rfl, ?_⟩
  replace H := H.toBelow hb; clear hb
  refine OPS.val rfl rfl rfl (Ev.asI rfl) ?_
  refine OPS.nil ?_
  refine WP.seq ?_
  refine WP.region ?_
  refine OPS.val rfl rfl rfl (Ev.mvI rfl) ?_
  refine OPS.val rfl rfl rfl (Ev.neq rfl rfl) ?_
  refine OPS.nil ?_
  refine WP.cond rfl (fun hc2 => ?_) (fun hc2 => ?_)
  · refine WP.seq ?_
    refine WP.region ?_
    refine OPS.val rfl rfl rfl (Ev.mvI rfl) ?_
    refine OPS.val rfl rfl rfl (Ev.asI rfl) ?_
    refine OPS.nil ?_
    refine WP.ret ⟨_, rfl, ?_⟩
    have h : roadErr n l ≠ 0 := by simpa using hc2
    exact ⟨by rw [nightErr, if_pos h]; rfl, H.below⟩
  have h0 : roadErr n l = 0 := by simpa using hc2
  refine WP.skip ?_
  refine WP.seq ?_
  refine WP.seq ?_
  refine WP.region ?_
  refine OPS.val rfl rfl rfl (Ev.fieldAddr (fld_run rfl) rfl) ?_
  refine OPS.val rfl rfl rfl (Ev.load1 (agg_run rfl) rfl (by exact H.ldL 0 rfl _ rfl)) ?_
  refine OPS.val rfl rfl rfl (Ev.len (el_run rfl) rfl) ?_
  refine OPS.val rfl rfl rfl (Ev.gtr rfl rfl) ?_
  refine OPS.val rfl rfl rfl (Ev.mvB rfl) ?_
  refine OPS.gval rfl rfl rfl rfl rfl (fun hg => Ev.fieldAddr (fld_run rfl) (by rfl)) ?_
  refine OPS.gval rfl rfl rfl rfl rfl (fun hg => Ev.load1 (agg_run rfl) (by exact gvE hg rfl) (by exact H.ldL 0 rfl _ rfl)) ?_
  refine OPS.gval rfl rfl rfl rfl rfl (fun hg => Ev.len (el_run rfl) (by exact gvE hg rfl)) ?_
  refine OPS.gval rfl rfl rfl rfl rfl (fun hg => Ev.gtr (by exact gvE hg rfl) (by rfl)) ?_
  refine OPS.val rfl rfl rfl ((by exact Ev.pickOr rfl rfl rfl)) ?_
  refine OPS.nil ?_
  refine WP.cond rfl (fun hc4 => ?_) (fun hc4 => ?_)
  · refine WP.seq ?_
    refine WP.region ?_
    refine OPS.val rfl rfl rfl (Ev.asI rfl) ?_
    refine OPS.nil ?_
    refine WP.ret ⟨_, rfl, ?_⟩
    exact ⟨by rw [nightErr, if_neg (by simp [h0]), if_pos (show fullB ts ns = true by simpa [fullB] using hc4)]; rfl, H.below⟩
  have hfu : fullB ts ns = false := by simpa [fullB] using hc4
  have hlt8 : ts.length ≤ 8 ∧ ns.length ≤ 16 := by simp at hc4; omega
  obtain ⟨m, rfl, hok⟩ := roadOk_of h0
  have hm2 := hok.n2
  have e0 : nightErr m l ts ns hd = if trucksErr m ts ≠ 0 then trucksErr m ts else if needsErr m ns ≠ 0 then needsErr m ns else if needTwice ns = true then 6 else if inB hd 0 3600 = true then 0 else 1 := by rw [nightErr, if_neg (by simp [h0]), if_neg (by simp [hfu])]
  refine WP.skip ?_
  refine WP.seq ?_
  refine WP.seq ?_
  refine WP.region ?_
  refine OPS.val rfl rfl rfl (Ev.fieldAddr (fld_run rfl) rfl) ?_
  refine OPS.val rfl rfl rfl (Ev.load1 (agg_run rfl) rfl (by exact H.ldL 0 rfl _ rfl)) ?_
  refine OPS.val rfl rfl rfl (Ev.len (el_run rfl) rfl) ?_
  refine OPS.val rfl rfl rfl (Ev.mvI rfl) ?_
  refine OPS.nil ?_
  refine WP.block ?_
  refine WP.loop [2, 5, 29, 30, 31, 32, 33, 34, 35, 36, 37, 38, 39, 40, 41, 42, 43, 44, 45, 46, 47, 48, 49, 50, 51, 52, 53, 54, 55, 56, 57, 58, 59, 60, 61, 62, 63, 64, 65, 66] (fun k e w' => ∃ j : Nat, j + k = ts.length ∧ e 29 = I j ∧ SH w0 [] w' [⟨g1, 28, [I m, .slice A l.length ca, .slice B ts.length cb, .slice C ns.length cc, I hd]⟩] ∧ ∀ i (hi : i < ts.length), i < j → truckBad m ts[i] = false ∧ truckRange ts[i] = false) (ts.length) (⟨0, by omega, rfl, H, fun i _ hi => absurd hi (by omega)⟩) ?_
  clear H
  rintro k u w ⟨j, hk, h29, H, hall⟩
  refine WP.know (t := 29) h29 ?_
  refine WP.seq ?_
  refine WP.region ?_
  refine OPS.val rfl rfl rfl (Ev.lss rfl rfl) ?_
  refine OPS.nil ?_
  refine WP.seq ?_
  refine WP.cond rfl (fun hc7 => ?_) (fun hc7 => ?_)
  · have hlt : j < ts.length := by simpa using hc7
    obtain ⟨b, o, rfl, hc⟩ := ht j hlt
    have hc' := cellsAt_sh H hc
    refine WP.skip ?_
    refine WP.seq ?_
    refine WP.block ?_
    refine WP.seq ?_
    refine WP.region ?_
    refine OPS.val rfl rfl rfl ((by exact Ev.indexAddr (el_run rfl) (size_run rfl) rfl rfl rfl (by omega))) ?_
    refine OPS.val rfl rfl rfl ((by (change Ev _ _ _ _ (Op.load 54 (Operand.tmp 31)) _; exact Ev.loadN (truckCells ts[j]) (agg_run rfl) (size_run rfl) rfl hc'))) ?_
    refine OPS.alloc rfl rfl rfl rfl (zero_run rfl) rfl H ?_
    clear H; intro g5 w H
    refine OPS.store 0 _ rfl rfl rfl (size_run rfl) rfl (cA rfl) rfl rfl H rfl (by simp) ?_
    clear H; intro w H; try simp only [List.set_cons_zero, List.set_cons_succ, putL, Nat.zero_add] at H
    refine OPS.nil ?_
    refine WP.seq ?_
    refine WP.seq ?_
    refine WP.region ?_
    refine OPS.val rfl rfl rfl (Ev.fieldAddr (fld_run rfl) rfl) ?_
    refine OPS.val rfl rfl rfl (Ev.load1 (agg_run rfl) rfl (by exact H.ldL 0 rfl _ rfl)) ?_
    refine OPS.val rfl rfl rfl (Ev.fieldAddr (fld_run rfl) rfl) ?_
    refine OPS.val rfl rfl rfl (Ev.fieldAddr (fld_run rfl) rfl) ?_
    refine OPS.val rfl rfl rfl (Ev.load1 (agg_run rfl) rfl (by exact H.ldL 1 rfl _ rfl)) ?_
    refine OPS.val rfl rfl rfl (Ev.sub rfl rfl (by unfold fits; omega)) ?_
    refine OPS.call (d := some 39) rfl rfl rfl (EvC.func (fun_run rfl)) (truckIn ts[j].depot 0 (m - 1) _) ?_
    rintro _ w ⟨rfl, hb⟩
    refine ⟨_, rfl, ?_⟩
    replace H := H.toBelow hb; clear hb
    refine OPS.val rfl rfl rfl (Ev.not rfl) ?_
    refine OPS.nil ?_
    refine WP.cond rfl (fun hc9 => ?_) (fun hc9 => ?_)
    · refine WP.seq ?_
      refine WP.region ?_
      refine OPS.val rfl rfl rfl (Ev.asI rfl) ?_
      refine OPS.nil ?_
      refine WP.ret ⟨_, rfl, ?_⟩
      have he : trucksErr m ts = 7 := by rw [trucksErr_drop (by omega) hall, List.drop_eq_getElem_cons hlt, trucksErr, if_pos (show truckBad m ts[j] = true from hc9)]
      exact ⟨by rw [e0, he]; rfl, H.below⟩
    refine WP.skip ?_
    refine WP.seq ?_
    refine WP.region ?_
    refine OPS.val rfl rfl rfl (Ev.fieldAddr (fld_run rfl) rfl) ?_
    refine OPS.val rfl rfl rfl (Ev.load1 (agg_run rfl) rfl (by exact H.ldL 0 rfl _ rfl)) ?_
    refine OPS.call (d := some 43) rfl rfl rfl (EvC.func (fun_run rfl)) (truckIn ts[j].cap 1 32 _) ?_
    rintro _ w ⟨rfl, hb⟩
    refine ⟨_, rfl, ?_⟩
    replace H := H.toBelow hb; clear hb
    refine OPS.val rfl rfl rfl (Ev.not rfl) ?_
    refine OPS.val rfl rfl rfl (Ev.mvB rfl) ?_
    refine OPS.gval rfl rfl rfl rfl rfl (fun hg => Ev.fieldAddr (fld_run rfl) (by rfl)) ?_
    refine OPS.gval rfl rfl rfl rfl rfl (fun hg => Ev.fieldAddr (fld_run rfl) (by exact gvE hg rfl)) ?_
    refine OPS.gval rfl rfl rfl rfl rfl (fun hg => Ev.load1 (agg_run rfl) (by exact gvE hg rfl) (by exact H.ldL 0 rfl _ rfl)) ?_
    refine OPS.gval rfl rfl rfl rfl rfl (fun hg => Ev.lss (by exact gvE hg rfl) (by rfl)) ?_
    refine OPS.val rfl rfl rfl ((by exact Ev.pickOr rfl rfl rfl)) ?_
    refine OPS.val rfl rfl rfl (Ev.mvB rfl) ?_
    refine OPS.gval rfl rfl rfl rfl rfl (fun hg => Ev.fieldAddr (fld_run rfl) (by rfl)) ?_
    refine OPS.gval rfl rfl rfl rfl rfl (fun hg => Ev.fieldAddr (fld_run rfl) (by exact gvE hg rfl)) ?_
    refine OPS.gval rfl rfl rfl rfl rfl (fun hg => Ev.load1 (agg_run rfl) (by exact gvE hg rfl) (by exact H.ldL 0 rfl _ rfl)) ?_
    refine OPS.gval rfl rfl rfl rfl rfl (fun hg => Ev.fieldAddr (fld_run rfl) (by rfl)) ?_
    refine OPS.gval rfl rfl rfl rfl rfl (fun hg => Ev.fieldAddr (fld_run rfl) (by exact gvE hg rfl)) ?_
    refine OPS.gval rfl rfl rfl rfl rfl (fun hg => Ev.load1 (agg_run rfl) (by exact gvE hg rfl) (by exact H.ldL 0 rfl _ rfl)) ?_
    refine OPS.gval rfl rfl rfl rfl rfl (fun hg => Ev.gtr (by exact gvE hg rfl) (by exact gvE hg rfl)) ?_
    refine OPS.val rfl rfl rfl ((by exact Ev.pickOr rfl rfl rfl)) ?_
    refine OPS.val rfl rfl rfl (Ev.mvB rfl) ?_
    refine OPS.gval rfl rfl rfl rfl rfl (fun hg => Ev.fieldAddr (fld_run rfl) (by rfl)) ?_
    refine OPS.gval rfl rfl rfl rfl rfl (fun hg => Ev.fieldAddr (fld_run rfl) (by exact gvE hg rfl)) ?_
    refine OPS.gval rfl rfl rfl rfl rfl (fun hg => Ev.load1 (agg_run rfl) (by exact gvE hg rfl) (by exact H.ldL 0 rfl _ rfl)) ?_
    refine OPS.gval rfl rfl rfl rfl rfl (fun hg => Ev.gtr (by exact gvE hg rfl) (by rfl)) ?_
    refine OPS.val rfl rfl rfl ((by exact Ev.pickOr rfl rfl rfl)) ?_
    refine OPS.nil ?_
    refine WP.cond rfl (fun hc11 => ?_) (fun hc11 => ?_)
    · refine WP.seq ?_
      refine WP.region ?_
      refine OPS.val rfl rfl rfl (Ev.asI rfl) ?_
      refine OPS.nil ?_
      refine WP.ret ⟨_, rfl, ?_⟩
      have he : trucksErr m ts = 1 := by rw [trucksErr_drop (by omega) hall, List.drop_eq_getElem_cons hlt, trucksErr, if_neg (by rw [show truckBad m ts[j] = false from hc9]; simp), if_pos (show truckRange ts[j] = true from hc11)]
      exact ⟨by rw [e0, he]; rfl, H.below⟩
    refine WP.skip ?_
    refine WP.region ?_
    refine OPS.val rfl rfl rfl (Ev.add rfl rfl (by unfold fits; omega)) ?_
    refine OPS.val rfl rfl rfl (Ev.mvI rfl) ?_
    refine OPS.nil ?_
    refine ⟨(by repeat (first | exact Agree.refl _ _ | exact Agree.mix _ _ _ | refine Agree.upd rfl ?_ | refine Agree.mix2 rfl ?_)), k - 1, by omega, j + 1, by omega, rfl, H.drop (by simp), fun i hi hij => ?_⟩
    rcases Nat.lt_succ_iff_lt_or_eq.1 hij with h | rfl
    · exact hall i hi h
    · exact ⟨hc9, hc11⟩
  have hj : j = ts.length := by simp at hc7; omega
  subst hj
  have ht0 : trucksErr m ts = 0 := by rw [trucksErr_drop (by omega) hall]; simp [trucksErr]
  clear hall
  refine WP.exit ?_
  refine XB.hit ?_
  refine WP.seq ?_
  refine WP.seq ?_
  refine WP.region ?_
  refine OPS.val rfl rfl rfl (Ev.fieldAddr (fld_run rfl) rfl) ?_
  refine OPS.val rfl rfl rfl (Ev.load1 (agg_run rfl) rfl (by exact H.ldL 0 rfl _ rfl)) ?_
  refine OPS.val rfl rfl rfl (Ev.len (el_run rfl) rfl) ?_
  refine OPS.val rfl rfl rfl (Ev.mvI rfl) ?_
  refine OPS.nil ?_
  refine WP.block ?_
  refine WP.loop [2, 7, 70, 71, 72, 73, 74, 75, 76, 77, 78, 79, 80, 81, 82, 83, 84, 85, 86, 87, 88, 89, 90, 91] (fun k e w' => ∃ j : Nat, j + k = ns.length ∧ e 70 = I j ∧ SH w0 [] w' [⟨g1, 28, [I m, .slice A l.length ca, .slice B ts.length cb, .slice C ns.length cc, I hd]⟩] ∧ ∀ i (hi : i < ns.length), i < j → needBad m ns[i] = false ∧ needRange ns[i] = false) (ns.length) (⟨0, by omega, rfl, H, fun i _ hi => absurd hi (by omega)⟩) ?_
  clear H
  rintro k u w ⟨j, hk, h70, H, hall⟩
  refine WP.know (t := 70) h70 ?_
  refine WP.seq ?_
  refine WP.region ?_
  refine OPS.val rfl rfl rfl (Ev.lss rfl rfl) ?_
  refine OPS.nil ?_
  refine WP.seq ?_
  refine WP.cond rfl (fun hc15 => ?_) (fun hc15 => ?_)
  · have hlt : j < ns.length := by simpa using hc15
    obtain ⟨b, o, rfl, hc⟩ := hn j hlt
    have hc' := cellsAt_sh H hc
    refine WP.skip ?_
    refine WP.seq ?_
    refine WP.block ?_
    refine WP.seq ?_
    refine WP.region ?_
    refine OPS.val rfl rfl rfl ((by exact Ev.indexAddr (el_run rfl) (size_run rfl) rfl rfl rfl (by omega))) ?_
    refine OPS.val rfl rfl rfl ((by (change Ev _ _ _ _ (Op.load 64 (Operand.tmp 72)) _; exact Ev.loadN (needCells ns[j]) (agg_run rfl) (size_run rfl) rfl hc'))) ?_
    refine OPS.alloc rfl rfl rfl rfl (zero_run rfl) rfl H ?_
    clear H; intro g7 w H
    refine OPS.store 0 _ rfl rfl rfl (size_run rfl) rfl (cA rfl) rfl rfl H rfl (by simp) ?_
    clear H; intro w H; try simp only [List.set_cons_zero, List.set_cons_succ, putL, Nat.zero_add] at H
    refine OPS.nil ?_
    refine WP.seq ?_
    refine WP.seq ?_
    refine WP.region ?_
    refine OPS.val rfl rfl rfl (Ev.fieldAddr (fld_run rfl) rfl) ?_
    refine OPS.val rfl rfl rfl (Ev.load1 (agg_run rfl) rfl (by exact H.ldL 0 rfl _ rfl)) ?_
    refine OPS.val rfl rfl rfl (Ev.fieldAddr (fld_run rfl) rfl) ?_
    refine OPS.val rfl rfl rfl (Ev.fieldAddr (fld_run rfl) rfl) ?_
    refine OPS.val rfl rfl rfl (Ev.load1 (agg_run rfl) rfl (by exact H.ldL 1 rfl _ rfl)) ?_
    refine OPS.val rfl rfl rfl (Ev.sub rfl rfl (by unfold fits; omega)) ?_
    refine OPS.call (d := some 80) rfl rfl rfl (EvC.func (fun_run rfl)) (truckIn ns[j].node 0 (m - 1) _) ?_
    rintro _ w ⟨rfl, hb⟩
    refine ⟨_, rfl, ?_⟩
    replace H := H.toBelow hb; clear hb
    refine OPS.val rfl rfl rfl (Ev.not rfl) ?_
    refine OPS.nil ?_
    refine WP.cond rfl (fun hc17 => ?_) (fun hc17 => ?_)
    · refine WP.seq ?_
      refine WP.region ?_
      refine OPS.val rfl rfl rfl (Ev.asI rfl) ?_
      refine OPS.nil ?_
      refine WP.ret ⟨_, rfl, ?_⟩
      have he : needsErr m ns = 7 := by rw [needsErr_drop (by omega) hall, List.drop_eq_getElem_cons hlt, needsErr, if_pos (show needBad m ns[j] = true from hc17)]
      exact ⟨by rw [e0, ht0, he]; rfl, H.below⟩
    refine WP.skip ?_
    refine WP.seq ?_
    refine WP.region ?_
    refine OPS.val rfl rfl rfl (Ev.fieldAddr (fld_run rfl) rfl) ?_
    refine OPS.val rfl rfl rfl (Ev.load1 (agg_run rfl) rfl (by exact H.ldL 0 rfl _ rfl)) ?_
    refine OPS.val rfl rfl rfl (Ev.eql rfl rfl) ?_
    refine OPS.val rfl rfl rfl (Ev.mvB rfl) ?_
    refine OPS.gval rfl rfl rfl rfl rfl (fun hg => Ev.fieldAddr (fld_run rfl) (by rfl)) ?_
    refine OPS.gval rfl rfl rfl rfl rfl (fun hg => Ev.load1 (agg_run rfl) (by exact gvE hg rfl) (by exact H.ldL 0 rfl _ rfl)) ?_
    refine OPS.gcall0 (f := 50) (truckIn ns[j].move (-32) 32 _) (fun _ _ h => h) rfl rfl rfl rfl rfl (fun hg => EvC.conv (EvC.func (fun_run rfl)) (l3 (by exact gvE hg rfl) (by rfl) (by rfl))) ?_
    intro w hbc; replace H := H.toBelow hbc
    refine OPS.gval rfl rfl rfl rfl rfl (fun hg => Ev.not (by exact gvE hg rfl)) ?_
    refine OPS.val rfl rfl rfl ((by exact Ev.pickOr rfl rfl rfl)) ?_
    refine OPS.nil ?_
    refine WP.cond rfl (fun hc19 => ?_) (fun hc19 => ?_)
    · refine WP.seq ?_
      refine WP.region ?_
      refine OPS.val rfl rfl rfl (Ev.asI rfl) ?_
      refine OPS.nil ?_
      refine WP.ret ⟨_, rfl, ?_⟩
      have he : needsErr m ns = 1 := by rw [needsErr_drop (by omega) hall, List.drop_eq_getElem_cons hlt, needsErr, if_neg (by rw [show needBad m ns[j] = false from hc17]; simp), if_pos (show needRange ns[j] = true from hc19)]
      exact ⟨by rw [e0, ht0, he]; rfl, H.below⟩
    refine WP.skip ?_
    refine WP.region ?_
    refine OPS.val rfl rfl rfl (Ev.add rfl rfl (by unfold fits; omega)) ?_
    refine OPS.val rfl rfl rfl (Ev.mvI rfl) ?_
    refine OPS.nil ?_
    refine ⟨(by repeat (first | exact Agree.refl _ _ | exact Agree.mix _ _ _ | refine Agree.upd rfl ?_ | refine Agree.mix2 rfl ?_)), k - 1, by omega, j + 1, by omega, rfl, H.drop (by simp), fun i hi hij => ?_⟩
    rcases Nat.lt_succ_iff_lt_or_eq.1 hij with h | rfl
    · exact hall i hi h
    · exact ⟨hc17, hc19⟩
  have hj : j = ns.length := by simp at hc15; omega
  subst hj
  have hn0 : needsErr m ns = 0 := by rw [needsErr_drop (by omega) hall]; simp [needsErr]
  clear hall
  refine WP.exit ?_
  refine XB.hit ?_
  refine WP.seq ?_
  refine WP.seq ?_
  refine WP.region ?_
  refine OPS.val rfl rfl rfl (Ev.fieldAddr (fld_run rfl) rfl) ?_
  refine OPS.val rfl rfl rfl (Ev.load1 (agg_run rfl) rfl (by exact H.ldL 0 rfl _ rfl)) ?_
  refine OPS.val rfl rfl rfl (Ev.len (el_run rfl) rfl) ?_
  refine OPS.val rfl rfl rfl (Ev.mvI rfl) ?_
  refine OPS.nil ?_
  refine WP.block ?_
  refine WP.loop [2, 8, 9, 95, 96, 97, 98, 99, 100, 101, 102, 103, 104, 105, 106] (fun k e w' => ∃ j : Nat, j + k = ns.length ∧ e 95 = I j ∧ SH w0 [] w' [⟨g1, 28, [I m, .slice A l.length ca, .slice B ts.length cb, .slice C ns.length cc, I hd]⟩] ∧ ((ns.map (·.node)).take j).Nodup) (ns.length) (⟨0, by omega, rfl, H, by simp⟩) ?_
  clear H
  rintro k u w ⟨j, hk, h95, H, hall⟩
  refine WP.know (t := 95) h95 ?_
  refine WP.seq ?_
  refine WP.region ?_
  refine OPS.val rfl rfl rfl (Ev.lss rfl rfl) ?_
  refine OPS.nil ?_
  refine WP.seq ?_
  refine WP.cond rfl (fun hc23 => ?_) (fun hc23 => ?_)
  · have hlt : j < ns.length := by simpa using hc23
    obtain ⟨b, o, rfl, hc⟩ := hn j hlt
    have hc' := cellsAt_sh H hc
    have hnt := nodup_take_succ (l := ns.map (·.node)) (show j < (ns.map (·.node)).length by simpa using hlt)
    refine WP.skip ?_
    refine WP.seq ?_
    refine WP.block ?_
    refine WP.seq ?_
    refine WP.region ?_
    refine OPS.val rfl rfl rfl (Ev.mvI rfl) ?_
    refine OPS.val rfl rfl rfl ((by exact Ev.indexAddr (el_run rfl) (size_run rfl) rfl rfl rfl (by omega))) ?_
    refine OPS.val rfl rfl rfl ((by (change Ev _ _ _ _ (Op.load 64 (Operand.tmp 98)) _; exact Ev.loadN (needCells ns[j]) (agg_run rfl) (size_run rfl) rfl hc'))) ?_
    refine OPS.alloc rfl rfl rfl rfl (zero_run rfl) rfl H ?_
    clear H; intro g9 w H
    refine OPS.val rfl rfl rfl (Ev.asI rfl) ?_
    refine OPS.store 0 _ rfl rfl rfl (size_run rfl) rfl (cA rfl) rfl rfl H rfl (by simp) ?_
    clear H; intro w H; try simp only [List.set_cons_zero, List.set_cons_succ, putL, Nat.zero_add] at H
    refine OPS.nil ?_
    refine WP.seq ?_
    refine WP.region ?_
    refine OPS.val rfl rfl rfl (Ev.fieldAddr (fld_run rfl) rfl) ?_
    refine OPS.val rfl rfl rfl (Ev.load1 (agg_run rfl) rfl (by exact H.ldL 1 rfl _ rfl)) ?_
    refine OPS.val rfl rfl rfl (Ev.mvI rfl) ?_
    refine OPS.val rfl rfl rfl (Ev.sliceTo (j := j) (el_run rfl) ⟨2, size_run rfl⟩ rfl rfl rfl (by omega)) ?_
    refine OPS.val rfl rfl rfl (Ev.makeFunc) ?_
    refine OPS.call (d := some 105) rfl rfl rfl (EvC.func (fun_run rfl)) (slContainsFuncNT _ ns j cc _ [.pointer (some ⟨g9, 0, none⟩)] (fun y => decide (y.node = ns[j].node)) w (hn.sh H) (by omega) (by unfold maxLen; omega) rfl (fun x _ w2 hb => truckCheckF x g9 ns[j].node ns[j].move w2 (cell_below hb (H.ldL 0 rfl 0 rfl)))) ?_
    rintro _ w ⟨rfl, hb⟩
    refine ⟨_, rfl, ?_⟩
    replace H := H.toBelow hb; clear hb
    refine OPS.nil ?_
    refine WP.cond rfl (fun hc25 => ?_) (fun hc25 => ?_)
    · refine WP.seq ?_
      refine WP.region ?_
      refine OPS.val rfl rfl rfl (Ev.asI rfl) ?_
      refine OPS.nil ?_
      refine WP.ret ⟨_, rfl, ?_⟩
      obtain ⟨y, hy, he⟩ := List.any_eq_true.1 hc25
      have hm : ns[j].node ∈ (ns.map (·.node)).take j := by rw [← List.map_take]; exact List.mem_map.2 ⟨y, hy, by simpa using he⟩
      have : needTwice ns = true := by
        unfold needTwice twiceB
        rw [Bool.not_eq_true', decide_eq_false_iff_not]
        exact fun h => (hnt.1 (nodup_of_take h)).2 (by simpa using hm)
      exact ⟨by rw [e0, ht0, hn0, this]; rfl, H.below⟩
    refine WP.skip ?_
    refine WP.region ?_
    refine OPS.val rfl rfl rfl (Ev.add rfl rfl (by unfold fits; omega)) ?_
    refine OPS.val rfl rfl rfl (Ev.mvI rfl) ?_
    refine OPS.nil ?_
    have hm : ns[j].node ∉ (ns.map (·.node)).take j := by
      rw [← List.map_take]
      intro h
      obtain ⟨y, hy, he⟩ := List.mem_map.1 h
      have := List.any_eq_false.1 hc25 y hy
      simp [he] at this
    exact ⟨(by repeat (first | exact Agree.refl _ _ | exact Agree.mix _ _ _ | refine Agree.upd rfl ?_ | refine Agree.mix2 rfl ?_)), k - 1, by omega, j + 1, by omega, rfl, H.drop (by simp), hnt.2 ⟨hall, by simpa using hm⟩⟩
  have hj : j = ns.length := by simp at hc23; omega
  have hnd : needTwice ns = false := by
    rw [hj, show ns.length = (ns.map (·.node)).length by simp, List.take_length] at hall
    simp only [needTwice, twiceB, hall, decide_true]; rfl
  have e1 : nightErr m l ts ns hd = if inB hd 0 3600 = true then 0 else 1 := by rw [e0, ht0, hn0, hnd]; simp
  refine WP.exit ?_
  refine XB.hit ?_
  refine WP.seq ?_
  refine WP.seq ?_
  refine WP.region ?_
  refine OPS.val rfl rfl rfl (Ev.fieldAddr (fld_run rfl) rfl) ?_
  refine OPS.val rfl rfl rfl (Ev.load1 (agg_run rfl) rfl (by exact H.ldL 0 rfl _ rfl)) ?_
  refine OPS.call (d := some 109) rfl rfl rfl (EvC.func (fun_run rfl)) (truckIn hd 0 3600 _) ?_
  rintro _ w ⟨rfl, hb⟩
  refine ⟨_, rfl, ?_⟩
  replace H := H.toBelow hb; clear hb
  refine OPS.val rfl rfl rfl (Ev.not rfl) ?_
  refine OPS.nil ?_
  refine WP.cond rfl (fun hc28 => ?_) (fun hc28 => ?_)
  · refine WP.seq ?_
    refine WP.region ?_
    refine OPS.val rfl rfl rfl (Ev.asI rfl) ?_
    refine OPS.nil ?_
    refine WP.ret ⟨_, rfl, ?_⟩
    exact ⟨by rw [e1, if_neg (by simpa using hc28)]; rfl, H.below⟩
  refine WP.skip ?_
  refine WP.seq ?_
  refine WP.region ?_
  refine OPS.val rfl rfl rfl (Ev.asI rfl) ?_
  refine OPS.nil ?_
  refine WP.ret ⟨_, rfl, ?_⟩
  exact ⟨by rw [e1, if_pos (by simpa using hc28)]; rfl, H.below⟩
end Go.Proofs.Ytfddebpeiilohaa

/-
  Walks: drive, visit, home of a tour.
-/
set_option linter.all false
namespace Go.Proofs.Ytfddebpeiilohaa
open Go Go.W Go.RowKit

theorem rowsS {α : Type} {sz : Nat} {enc : α → List Value} {w0 w : World} {S : List Nat} {L : List Blk} {A : Option Addr} {l : List α} (h : RowsAt sz enc w0 A l) (hS : l ≠ [] → Off A S) (H : SH w0 S w L) : RowsAt sz enc w A l := by
  cases l with
  | nil => exact RowsAt.nil
  | cons a l => exact h.shS (hS (by simp)) H
theorem roadT_bd {n s v : Nat} {l : List Edg} (hok : RoadOk n l) (hs : s < n) (hv : v < n) : -1 ≤ roadT n l s v ∧ roadT n l s v ≤ 64000 := by
  obtain ⟨K, D, hR⟩ := rd_exists hok hs
  rw [roadT_eq hok hR hv]
  cases hk : K v with
  | true => have := hR.small hok hv hk; simp; omega
  | false => simp
theorem roadErr_ok {n : Nat} {l : List Edg} (hok : RoadOk n l) : roadErr n l = 0 := by
  have h1 := hok.n1
  have h2 := hok.n2
  have h3 := hok.len
  rw [roadErr, if_neg (by simp; omega), if_neg (by omega), edgsErr_drop (j := l.length) (Nat.le_refl _) (fun i hi _ => ?_)]
  · simp [edgsErr]
  · have h4 := hok.nodes l[i] (List.getElem_mem hi)
    have h5 := hok.secs l[i] (List.getElem_mem hi)
    refine ⟨?_, ?_⟩
    · simp [edgBad, isNode]; omega
    · simp [edgRange]; omega
theorem timesOf_ok {n s : Nat} {l : List Edg} (hok : RoadOk n l) (hs : s < n) : timesErr n l s = 0 ∧ timesOf n l s = timesL n l s := by
  have h : timesErr n l s = 0 := by
    have h1 := roadErr_ok hok
    unfold timesErr isNode
    simp [h1, hs]
  exact ⟨h, by rw [timesOf, if_pos h]; simp⟩
/-- a truck on its way -/
structure TS where
  at_ : Nat
  now : Int
  load : Int
  driven : Int
def tourCells (t : Truck) (N : List Value) (s : TS) : List Value := truckCells t ++ N ++ [I s.at_, I s.now, I s.load, I s.driven]
def driveE (d : Int) : Int := if d < 0 then 15 else 0
def driveS (d : Int) (v : Nat) (s : TS) : TS := ⟨v, s.now + d, s.load, s.driven + d⟩
def nightL (m : Nat) (A B C : Option Addr) (ll tl nl ca cb cc : Nat) (hd : Int) : List Value := [I m, .slice A ll ca, .slice B tl cb, .slice C nl cc, I hd]

set_option maxHeartbeats 1000000 in
theorem tourDrive (g m v : Nat) (A B C : Option Addr) (l : List Edg) (tl nl ca cb cc : Nat) (hd : Int) (t : Truck) (s : TS) (w0 : World) (S : List Nat) (hok : RoadOk m l) (hv : v < m) (hs : s.at_ < m) (hb : -1000000000000 ≤ s.now ∧ s.now ≤ 1000000000000 ∧ -1000000000000 ≤ s.driven ∧ s.driven ≤ 1000000000000)
    (hz : EdgsAt w0 A l) (hA : l ≠ [] → Off A S) (H0 : SH w0 S w0 [⟨g, 70, tourCells t (nightL m A B C l.length tl nl ca cb cc hd) s⟩]) :
    Calls Try.prog 71 #[.pointer (some ⟨g, 0, none⟩), I v] w0 fun e w' => e = .returned (I (driveE (roadT m l s.at_ v))) ∧ (0 ≤ roadT m l s.at_ v → SH w0 S w' [⟨g, 70, tourCells t (nightL m A B C l.length tl nl ca cb cc hd) (driveS (roadT m l s.at_ v) v s)⟩]) ∧ ∃ L, SH w0 S w' L := by
  have H := H0
  have hbd := roadT_bd hok hs hv
  obtain ⟨hte, htl⟩ := timesOf_ok hok hs
  have htn := timesL_length m l s.at_
  unfold tourCells truckCells nightL at H
  simp only [List.cons_append, List.nil_append] at H
  refine Calls.ofWP Try.func71 rfl Try.results71 Try.ntmps71 rfl ?_
  refine WP.seq ?_
  refine WP.region ?_
  refine OPS.val rfl rfl rfl (Ev.asI rfl) ?_
  refine OPS.nil ?_
  refine WP.seq ?_
  refine WP.rheldC [5, 6, 7, 8, 9, 10, 11, 12, 13, 14, 15, 16, 17, 18, 19] (fun u w' => ∃ (TA : Option Addr) (Lc : List Blk), u 5 = .slice TA (timesOf m l s.at_).length (timesOf m l s.at_).length ∧ u 6 = I (timesErr m l s.at_) ∧ OwnL 3 I TA (timesOf m l s.at_) Lc ∧ SH w0 S w' ([⟨g, 70, tourCells t (nightL m A B C l.length tl nl ca cb cc hd) s⟩] ++ Lc)) mixed H ?_ ?_
  · clear H; intro w hbw1 H
    refine OPH.take 0 rfl rfl rfl rfl (by kernel_rfl) (by kernel_rfl) (by kernel_rfl) rfl (by exact H) (fun w H => Ev.mvP rfl) ?_
    refine OPH.take 1 rfl rfl rfl rfl (by kernel_rfl) (by kernel_rfl) (by kernel_rfl) rfl (by exact H) (fun w H => (by exact Ev.nilCheckP rfl)) ?_
    refine OPH.take 2 rfl rfl rfl rfl (by kernel_rfl) (by kernel_rfl) (by kernel_rfl) rfl (by exact H) (fun w H => Ev.fieldAddr (fld_run rfl) rfl) ?_
    refine OPH.take 3 rfl rfl rfl rfl (by kernel_rfl) (by kernel_rfl) (by kernel_rfl) rfl (by exact H) (fun w H => Ev.fieldAddr (fld_run rfl) rfl) ?_
    refine OPH.take 4 rfl rfl rfl rfl (by kernel_rfl) (by kernel_rfl) (by kernel_rfl) rfl (by exact H) (fun w H => (by exact Ev.loadN [_, _] (agg_run rfl) (size_run rfl) rfl ⟨H.ldL 0 rfl _ rfl, H.ldL 0 rfl _ rfl, trivial⟩)) ?_
    refine OPH.take 5 rfl rfl rfl rfl (by kernel_rfl) (by kernel_rfl) (by kernel_rfl) rfl (by exact H) (fun w H => Ev.mvP rfl) ?_
    refine OPH.take 6 rfl rfl rfl rfl (by kernel_rfl) (by kernel_rfl) (by kernel_rfl) rfl (by exact H) (fun w H => (by exact Ev.nilCheckP rfl)) ?_
    refine OPH.take 7 rfl rfl rfl rfl (by kernel_rfl) (by kernel_rfl) (by kernel_rfl) rfl (by exact H) (fun w H => Ev.fieldAddr (fld_run rfl) rfl) ?_
    refine OPH.take 8 rfl rfl rfl rfl (by kernel_rfl) (by kernel_rfl) (by kernel_rfl) rfl (by exact H) (fun w H => Ev.load1 (agg_run rfl) rfl (by exact H.ldL 0 rfl _ rfl)) ?_
    refine OPH.all [9] (by kernel_rfl) (by simp) rfl ?_
    intro i hi; simp only [List.mem_cons, List.not_mem_nil, or_false] at hi
    rcases hi with rfl
    · refine ⟨_, rfl, ?_⟩
      refine OPS.call (d := some 17) rfl rfl rfl (EvC.func (fun_run rfl)) (roadTimes m s.at_ A l ca _ (rowsS hz hA H)) ?_
      rintro _ w ⟨TA, Lc, rfl, hOL, Hc⟩
      refine ⟨_, rfl, ?_⟩
      have Hf : SH w0 S w ([_] ++ Lc) := SH.call (L1 := [_]) (Lv := []) H Hc
      clear H Hc
      have H := Hf.drop (List.sublist_append_left _ _)
      refine OPS.nil ?_
      refine ⟨(by exact H), ?_⟩
      refine OPH.take 10 rfl rfl rfl rfl (by kernel_rfl) (by kernel_rfl) (by kernel_rfl) rfl (by exact H) (fun w H => Ev.mvT rfl) ?_
      refine OPH.take 11 rfl rfl rfl rfl (by kernel_rfl) (by kernel_rfl) (by kernel_rfl) rfl (by exact H) (fun w H => Ev.extract rfl rfl) ?_
      refine OPH.take 12 rfl rfl rfl rfl (by kernel_rfl) (by kernel_rfl) (by kernel_rfl) rfl (by exact H) (fun w H => Ev.extract rfl rfl) ?_
      refine OPH.take 13 rfl rfl rfl rfl (by kernel_rfl) (by kernel_rfl) (by kernel_rfl) rfl (by exact H) (fun w H => Ev.asS rfl) ?_
      refine OPH.take 14 rfl rfl rfl rfl (by kernel_rfl) (by kernel_rfl) (by kernel_rfl) rfl (by exact H) (fun w H => Ev.asI rfl) ?_
      refine OPH.done (by kernel_rfl) ?_
      exact ⟨(by repeat (first | exact Agree.refl _ _ | exact Agree.mix _ _ _ | refine Agree.upd rfl ?_ | refine Agree.mix2 rfl ?_)), TA, Lc, rfl, rfl, hOL, Hf⟩
  clear H
  rintro u w ⟨TA, Lc, h5, h6, hOL, H⟩
  refine WP.know (t := 5) h5 (WP.know (t := 6) h6 ?_)
  unfold tourCells truckCells nightL at H
  simp only [List.cons_append, List.nil_append] at H
  rw [htl] at hOL
  have htv : (timesL m l s.at_)[v]'(by omega) = roadT m l s.at_ v := timesL_at (by omega)
  have hvl : v < (timesOf m l s.at_).length := by rw [htl]; omega
  have hrd : ∀ (w : World) (B : Blk), SH w0 S w ([B] ++ Lc) → OnesAt I w TA (timesL m l s.at_) := fun w B H => hOL.rd H (fun b hb => List.mem_append_right _ hb)
  obtain ⟨bt, ot, rfl, _⟩ := hrd w _ H v (by omega)
  have hx0 := (hrd w _ H).atK (show v < (timesL m l s.at_).length by omega)
  rw [htv] at hx0
  refine WP.seq ?_
  refine WP.block ?_
  refine WP.seq ?_
  refine WP.region ?_
  refine OPS.val rfl rfl rfl (Ev.mvI rfl) ?_
  refine OPS.val rfl rfl rfl (Ev.neq rfl rfl) ?_
  refine OPS.val rfl rfl rfl (Ev.asB rfl) ?_
  refine OPS.nil ?_
  refine WP.cond rfl (fun hc2 => ?_) (fun hc2 => ?_)
  · refine WP.seq ?_
    refine WP.region ?_
    refine OPS.val rfl rfl rfl (Ev.mvI rfl) ?_
    refine OPS.val rfl rfl rfl (Ev.asI rfl) ?_
    refine OPS.nil ?_
    refine WP.ret ⟨_, rfl, ?_⟩
    exact absurd hc2 (by rw [hte]; simp)
  refine WP.seq ?_
  refine WP.region ?_
  refine OPS.val rfl rfl rfl (Ev.mvS rfl) ?_
  refine OPS.val rfl rfl rfl (Ev.mvI rfl) ?_
  refine OPS.val rfl rfl rfl ((by exact Ev.indexAddr1 (el_run rfl) (size_run rfl) rfl rfl rfl (by omega))) ?_
  refine OPS.val rfl rfl rfl (Ev.load1 (agg_run rfl) rfl (by assumption)) ?_
  refine OPS.val rfl rfl rfl (Ev.lss rfl rfl) ?_
  refine OPS.val rfl rfl rfl (Ev.asB rfl) ?_
  refine OPS.nil ?_
  refine WP.cond rfl (fun hc4 => ?_) (fun hc4 => ?_)
  · refine WP.seq ?_
    refine WP.region ?_
    refine OPS.val rfl rfl rfl (Ev.asI rfl) ?_
    refine OPS.nil ?_
    refine WP.ret ⟨_, rfl, ?_⟩
    have hd0 : roadT m l s.at_ v < 0 := by simpa using hc4
    exact ⟨by rw [driveE, if_pos hd0]; rfl, fun h => absurd h (by omega), _, H⟩
  have hd0 : ¬ roadT m l s.at_ v < 0 := by simpa using hc4
  refine WP.skip ?_
  refine WP.seq ?_
  refine WP.region ?_
  refine OPS.val rfl rfl rfl (Ev.mvP rfl) ?_
  refine OPS.val rfl rfl rfl (Ev.mvI rfl) ?_
  refine OPS.val rfl rfl rfl ((by exact Ev.nilCheckP rfl)) ?_
  refine OPS.val rfl rfl rfl (Ev.fieldAddr (fld_run rfl) rfl) ?_
  refine OPS.store 0 _ rfl rfl rfl (size_run rfl) rfl (cI rfl) rfl rfl H rfl (by simp) ?_
  clear H; intro w H; try simp only [List.set_cons_zero, List.set_cons_succ, putL, Nat.zero_add] at H
  refine OPS.nil ?_
  refine WP.seq ?_
  refine WP.rtail 11 mixed (by kernel_rfl) H ?_
  clear H; intro w hbw7 H
  refine OPS.val rfl rfl rfl (Ev.mvP rfl) ?_
  refine OPS.val rfl rfl rfl ((by exact Ev.nilCheckP rfl)) ?_
  refine OPS.val rfl rfl rfl (Ev.fieldAddr (fld_run rfl) rfl) ?_
  refine OPS.val rfl rfl rfl (Ev.load1 (agg_run rfl) rfl (by exact H.ldL 0 rfl _ rfl)) ?_
  refine OPS.val rfl rfl rfl (Ev.mvS rfl) ?_
  refine OPS.val rfl rfl rfl (Ev.mvI rfl) ?_
  refine OPS.val rfl rfl rfl ((by exact Ev.indexAddr1 (el_run rfl) (size_run rfl) rfl rfl rfl (by omega))) ?_
  have hxm := (hrd w _ H).atK (show v < (timesL m l s.at_).length by omega)
  rw [htv] at hxm
  refine OPS.val rfl rfl rfl (Ev.load1 (agg_run rfl) rfl (by assumption)) ?_
  refine OPS.val rfl rfl rfl (Ev.add rfl rfl (by unfold fits; omega)) ?_
  refine OPS.val rfl rfl rfl ((by exact Ev.nilCheckP rfl)) ?_
  refine OPS.val rfl rfl rfl (Ev.fieldAddr (fld_run rfl) rfl) ?_
  refine OPS.nil_s ?_
  refine OPS.store 0 _ rfl rfl rfl (size_run rfl) rfl (cI rfl) rfl rfl H rfl (by simp) ?_
  clear H; intro w H; try simp only [List.set_cons_zero, List.set_cons_succ, putL, Nat.zero_add] at H
  refine OPS.nil ?_
  refine WP.seq ?_
  refine WP.rtail 11 mixed (by kernel_rfl) H ?_
  clear H; intro w hbw8 H
  refine OPS.val rfl rfl rfl (Ev.mvP rfl) ?_
  refine OPS.val rfl rfl rfl ((by exact Ev.nilCheckP rfl)) ?_
  refine OPS.val rfl rfl rfl (Ev.fieldAddr (fld_run rfl) rfl) ?_
  refine OPS.val rfl rfl rfl (Ev.load1 (agg_run rfl) rfl (by exact H.ldL 0 rfl _ rfl)) ?_
  refine OPS.val rfl rfl rfl (Ev.mvS rfl) ?_
  refine OPS.val rfl rfl rfl (Ev.mvI rfl) ?_
  refine OPS.val rfl rfl rfl ((by exact Ev.indexAddr1 (el_run rfl) (size_run rfl) rfl rfl rfl (by omega))) ?_
  have hxm := (hrd w _ H).atK (show v < (timesL m l s.at_).length by omega)
  rw [htv] at hxm
  refine OPS.val rfl rfl rfl (Ev.load1 (agg_run rfl) rfl (by assumption)) ?_
  refine OPS.val rfl rfl rfl (Ev.add rfl rfl (by unfold fits; omega)) ?_
  refine OPS.val rfl rfl rfl ((by exact Ev.nilCheckP rfl)) ?_
  refine OPS.val rfl rfl rfl (Ev.fieldAddr (fld_run rfl) rfl) ?_
  refine OPS.nil_s ?_
  refine OPS.store 0 _ rfl rfl rfl (size_run rfl) rfl (cI rfl) rfl rfl H rfl (by simp) ?_
  clear H; intro w H; try simp only [List.set_cons_zero, List.set_cons_succ, putL, Nat.zero_add] at H
  refine OPS.nil ?_
  refine WP.seq ?_
  refine WP.region ?_
  refine OPS.val rfl rfl rfl (Ev.asI rfl) ?_
  refine OPS.nil ?_
  refine WP.ret ⟨_, rfl, ?_⟩
  exact ⟨by rw [driveE, if_neg hd0]; rfl, fun _ => H.drop (L' := [_]) (List.Sublist.cons_cons _ (List.nil_sublist _)), _, H⟩
end Go.Proofs.Ytfddebpeiilohaa

/-
  Walks: visit, home of a tour.
-/
set_option linter.all false
namespace Go.Proofs.Ytfddebpeiilohaa
open Go Go.W Go.RowKit

structure Vis where
  need : Int
  arrive : Int
  leave : Int
  load : Int
instance : Inhabited Vis := ⟨⟨0, 0, 0, 0⟩⟩
def visCells (v : Vis) : List Value := [I v.need, I v.arrive, I v.leave, I v.load]
theorem visCells_len (v : Vis) : (visCells v).length = 4 := rfl
def absI (z : Int) : Int := if z < -z then -z else z
def visitE (d cap : Int) (x : Need) (s : TS) : Int := if d < 0 then 15 else if inB (s.load + x.move) 0 cap = true then 0 else 24
def visitV (d hd : Int) (i : Int) (x : Need) (s : TS) : Vis := ⟨i, s.now + d, s.now + d + absI x.move * hd, s.load + x.move⟩
def visitT (d hd : Int) (x : Need) (s : TS) : TS := ⟨x.node.toNat, s.now + d + absI x.move * hd, s.load + x.move, s.driven + d⟩

set_option maxHeartbeats 1000000 in
theorem tourVisit (g m i : Nat) (A B C : Option Addr) (l : List Edg) (ns : List Need) (tl ca cb cc : Nat) (hd : Int) (t : Truck) (s : TS) (w0 : World) (S : List Nat) (hok : RoadOk m l) (hs : s.at_ < m) (hb : -100000000000 ≤ s.now ∧ s.now ≤ 100000000000 ∧ -100000000000 ≤ s.driven ∧ s.driven ≤ 100000000000 ∧ -100000 ≤ s.load ∧ s.load ≤ 100000)
    (hi : i < ns.length) (hx : 0 ≤ ns[i].node ∧ ns[i].node < m ∧ -32 ≤ ns[i].move ∧ ns[i].move ≤ 32) (hh : 0 ≤ hd ∧ hd ≤ 3600)
    (hz : EdgsAt w0 A l) (hA : l ≠ [] → Off A [g]) (hn : RowsAt 2 needCells w0 C ns) (hC : ns ≠ [] → Off C S) (H0 : SH w0 S w0 [⟨g, 70, tourCells t (nightL m A B C l.length tl ns.length ca cb cc hd) s⟩]) (hgS : S = [g]) :
    Calls Try.prog 58 #[.pointer (some ⟨g, 0, none⟩), I i] w0 fun e w' => e = .returned (.tuple #[.agg (visCells (if visitE (roadT m l s.at_ ns[i].node.toNat) t.cap ns[i] s = 0 then visitV (roadT m l s.at_ ns[i].node.toNat) hd i ns[i] s else default)).toArray, I (visitE (roadT m l s.at_ ns[i].node.toNat) t.cap ns[i] s)]) ∧
      (visitE (roadT m l s.at_ ns[i].node.toNat) t.cap ns[i] s = 0 → SH w0 S w' [⟨g, 70, tourCells t (nightL m A B C l.length tl ns.length ca cb cc hd) (visitT (roadT m l s.at_ ns[i].node.toNat) hd ns[i] s)⟩]) ∧ ∃ L, SH w0 S w' L := by
  have H := H0
  obtain ⟨v, hv⟩ := Int.eq_ofNat_of_zero_le hx.1
  have hvm : v < m := by omega
  have hvT : ns[i].node.toNat = v := by omega
  rw [hvT]
  have hbd := roadT_bd hok hs hvm
  generalize hD : roadT m l s.at_ v = d at *
  have hxa : 0 ≤ absI ns[i].move ∧ absI ns[i].move ≤ 32 := by unfold absI; split <;> omega
  have hmul : 0 ≤ absI ns[i].move * hd ∧ absI ns[i].move * hd ≤ 115200 := by
    refine ⟨Int.mul_nonneg hxa.1 hh.1, ?_⟩
    calc absI ns[i].move * hd ≤ 32 * hd := Int.mul_le_mul_of_nonneg_right hxa.2 hh.1
      _ ≤ 115200 := by omega
  have hmul2 : 0 ≤ (if ns[i].move < -ns[i].move then -ns[i].move else ns[i].move) * hd ∧ (if ns[i].move < -ns[i].move then -ns[i].move else ns[i].move) * hd ≤ 115200 := hmul
  obtain ⟨bn, on, rfl, hc⟩ := hn i hi
  have hnb : bn ∉ S := hC (by intro h; subst h; simp at hi) bn on rfl
  have hcd : needCells ns[i] = [I v, I ns[i].move] := by unfold needCells; rw [hv]
  unfold tourCells truckCells nightL at H
  simp only [List.cons_append, List.nil_append] at H
  refine Calls.ofWPc Try.func58 rfl Try.results58 Try.ntmps58 rfl ?_
  refine WP.seq ?_
  refine WP.region ?_
  refine OPS.alloc rfl rfl rfl rfl (zero_run rfl) rfl H ?_
  clear H; intro g4 w H
  refine OPS.val rfl rfl rfl (Ev.asI rfl) ?_
  refine OPS.nil ?_
  refine WP.seq ?_
  refine WP.region ?_
  refine OPS.val rfl rfl rfl (Ev.mvP rfl) ?_
  refine OPS.val rfl rfl rfl ((by exact Ev.nilCheckP rfl)) ?_
  refine OPS.val rfl rfl rfl (Ev.fieldAddr (fld_run rfl) rfl) ?_
  refine OPS.val rfl rfl rfl (Ev.fieldAddr (fld_run rfl) rfl) ?_
  refine OPS.val rfl rfl rfl (Ev.load1 (agg_run rfl) rfl (by exact H.ldL 1 rfl _ rfl)) ?_
  refine OPS.val rfl rfl rfl (Ev.mvI rfl) ?_
  refine OPS.val rfl rfl rfl ((by exact Ev.indexAddr (el_run rfl) (size_run rfl) rfl rfl rfl (by omega))) ?_
  have hc' := cellsAt_shS H hnb hc
  rw [hcd] at hc'
  refine OPS.val rfl rfl rfl ((by (change Ev _ _ _ _ (Op.load 64 (Operand.tmp 15)) _; exact Ev.loadN [I v, I ns[i].move] (agg_run rfl) (size_run rfl) rfl hc'))) ?_
  refine OPS.alloc rfl rfl rfl rfl (zero_run rfl) rfl H ?_
  clear H; intro g6 w H
  refine OPS.store 0 _ rfl rfl rfl (size_run rfl) rfl (cA rfl) rfl rfl H rfl (by simp) ?_
  clear H; intro w H
  simp only [List.set_cons_zero, List.set_cons_succ, putL, Nat.zero_add] at H
  refine OPS.nil ?_
  refine WP.seq ?_
  refine WP.seq ?_
  refine WP.region ?_
  refine OPS.val rfl rfl rfl (Ev.mvP rfl) ?_
  refine OPS.val rfl rfl rfl (Ev.fieldAddr (fld_run rfl) rfl) ?_
  refine OPS.val rfl rfl rfl (Ev.load1 (agg_run rfl) rfl (by exact H.ldL 0 rfl _ rfl)) ?_
  refine OPS.call (d := some 20) rfl rfl rfl (EvC.func (fun_run rfl)) (tourDrive g m v A B (some ⟨bn, on, none⟩) l tl ns.length ca cb cc hd t s w [g] hok hvm hs (by omega) (rowsS hz (by rw [hgS]; exact hA) H) hA (H.restart (Lv := [⟨g, 70, tourCells t (nightL m A B (some ⟨bn, on, none⟩) l.length tl ns.length ca cb cc hd) s⟩]) (((List.Sublist.refl _).cons _).cons _))) ?_
  rintro _ w ⟨rfl, hdr, Lx, Hx⟩
  refine ⟨_, rfl, ?_⟩
  rw [hD] at hdr
  have Hg : 0 ≤ d → SH w0 S w _ := fun h => SH.call (L1 := [_, _]) (Lv := [⟨g, 70, tourCells t (nightL m A B (some ⟨bn, on, none⟩) l.length tl ns.length ca cb cc hd) s⟩]) H (hdr h)
  replace H := SH.call (L1 := [_, _]) (Lv := [⟨g, 70, tourCells t (nightL m A B (some ⟨bn, on, none⟩) l.length tl ns.length ca cb cc hd) s⟩]) H Hx
  clear hdr Hx
  rw [hD]
  refine OPS.val rfl rfl rfl (Ev.asI rfl) ?_
  refine OPS.nil ?_
  refine WP.seq ?_
  refine WP.region ?_
  refine OPS.val rfl rfl rfl (Ev.mvI rfl) ?_
  refine OPS.val rfl rfl rfl (Ev.neq rfl rfl) ?_
  refine OPS.nil ?_
  refine WP.cond rfl (fun hc3 => ?_) (fun hc3 => ?_)
  · have hdn : d < 0 := by
      rcases Int.lt_or_le d 0 with h | h
      · exact h
      · rw [driveE, if_neg (by omega)] at hc3; simp at hc3
    rw [driveE, if_pos hdn]
    clear Hg
    refine WP.seq ?_
    refine WP.region ?_
    refine OPS.val rfl rfl rfl (Ev.build (bld_99_ (e := fun _ => .int .i64 0))) ?_
    refine OPS.val rfl rfl rfl (Ev.mvI rfl) ?_
    refine OPS.store 1 _ rfl rfl rfl (size_run rfl) rfl (cA rfl) rfl rfl H rfl (by simp) ?_
    clear H; intro w H; try simp only [List.set_cons_zero, List.set_cons_succ, putL, Nat.zero_add] at H
    refine OPS.val rfl rfl rfl (Ev.asI rfl) ?_
    refine OPS.nil ?_
    refine WP.ret ⟨[_, _], ⟨(by exact resCellA 1 H rfl (agg_run rfl) (size_run rfl) (by rfl) rfl), rfl, trivial⟩, ?_⟩
    have he : visitE d t.cap ns[i] s = 15 := by rw [visitE, if_pos hdn]
    rw [he]
    exact ⟨by rw [if_neg (by decide)]; rfl, fun h => absurd h (by decide), _, H⟩
  have hdp : 0 ≤ d := by
    rcases Int.lt_or_le d 0 with h | h
    · rw [driveE, if_pos h] at hc3; simp at hc3
    · exact h
  replace H := Hg hdp
  clear Hg
  unfold tourCells truckCells nightL driveS at H
  simp only [List.cons_append, List.nil_append] at H
  refine WP.skip ?_
  refine WP.seq ?_
  refine WP.seq ?_
  refine WP.rquiet mixed (by kernel_rfl) H ?_
  clear H; intro w hbw5 H
  refine OPS.val rfl rfl rfl (Ev.mvP rfl) ?_
  refine OPS.val rfl rfl rfl ((by exact Ev.nilCheckP rfl)) ?_
  refine OPS.val rfl rfl rfl (Ev.fieldAddr (fld_run rfl) rfl) ?_
  refine OPS.val rfl rfl rfl (Ev.load1 (agg_run rfl) rfl (by exact H.ldL 2 rfl _ rfl)) ?_
  refine OPS.val rfl rfl rfl (Ev.fieldAddr (fld_run rfl) rfl) ?_
  refine OPS.val rfl rfl rfl (Ev.load1 (agg_run rfl) rfl (by exact H.ldL 0 rfl _ rfl)) ?_
  refine OPS.val rfl rfl rfl (Ev.add rfl rfl (by unfold fits; omega)) ?_
  refine OPS.val rfl rfl rfl (Ev.mvP rfl) ?_
  refine OPS.val rfl rfl rfl ((by exact Ev.nilCheckP rfl)) ?_
  refine OPS.val rfl rfl rfl (Ev.fieldAddr (fld_run rfl) rfl) ?_
  refine OPS.val rfl rfl rfl (Ev.fieldAddr (fld_run rfl) rfl) ?_
  refine OPS.val rfl rfl rfl (Ev.load1 (agg_run rfl) rfl (by exact H.ldL 2 rfl _ rfl)) ?_
  refine OPS.callq rfl rfl rfl (EvC.func (fun_run rfl)) (fun w2 hb2 => truckIn _ _ _ _) ?_
  refine OPS.val rfl rfl rfl (Ev.not rfl) ?_
  refine OPS.nilq H ?_
  clear H; intro w hbx5 H
  refine WP.cond rfl (fun hc5 => ?_) (fun hc5 => ?_)
  · refine WP.seq ?_
    refine WP.region ?_
    refine OPS.val rfl rfl rfl (Ev.build (bld_99_ (e := fun _ => .int .i64 0))) ?_
    refine OPS.store 1 _ rfl rfl rfl (size_run rfl) rfl (cA rfl) rfl rfl H rfl (by simp) ?_
    clear H; intro w H; try simp only [List.set_cons_zero, List.set_cons_succ, putL, Nat.zero_add] at H
    refine OPS.val rfl rfl rfl (Ev.asI rfl) ?_
    refine OPS.nil ?_
    refine WP.ret ⟨[_, _], ⟨(by exact resCellA 1 H rfl (agg_run rfl) (size_run rfl) (by rfl) rfl), rfl, trivial⟩, ?_⟩
    have he : visitE d t.cap ns[i] s = 24 := by rw [visitE, if_neg (by omega), if_neg (by simpa using hc5)]
    rw [he]
    exact ⟨by rw [if_neg (by decide)]; rfl, fun h => absurd h (by decide), _, H⟩
  have hok5 : inB (s.load + ns[i].move) 0 t.cap = true := by simpa using hc5
  have he : visitE d t.cap ns[i] s = 0 := by rw [visitE, if_neg (by omega), if_pos hok5]
  rw [he]
  refine WP.skip ?_
  refine WP.seq ?_
  refine WP.region ?_
  refine OPS.val rfl rfl rfl (Ev.mvI rfl) ?_
  refine OPS.val rfl rfl rfl (Ev.mvP rfl) ?_
  refine OPS.val rfl rfl rfl ((by exact Ev.nilCheckP rfl)) ?_
  refine OPS.val rfl rfl rfl (Ev.fieldAddr (fld_run rfl) rfl) ?_
  refine OPS.val rfl rfl rfl (Ev.load1 (agg_run rfl) rfl (by exact H.ldL 2 rfl _ rfl)) ?_
  refine OPS.val rfl rfl rfl (Ev.build (bld_99_0_1 rfl rfl)) ?_
  refine OPS.alloc rfl rfl rfl rfl (zero_run rfl) rfl H ?_
  clear H; intro g8 w H
  refine OPS.store 0 _ rfl rfl rfl (size_run rfl) rfl (cA rfl) rfl rfl H rfl (by simp) ?_
  clear H; intro w H; try simp only [List.set_cons_zero, List.set_cons_succ, putL, Nat.zero_add] at H
  refine OPS.nil ?_
  refine WP.seq ?_
  refine WP.rtail 9 mixed (by kernel_rfl) H ?_
  clear H; intro w hbw8 H
  refine OPS.val rfl rfl rfl (Ev.mvP rfl) ?_
  refine OPS.val rfl rfl rfl ((by exact Ev.nilCheckP rfl)) ?_
  refine OPS.val rfl rfl rfl (Ev.fieldAddr (fld_run rfl) rfl) ?_
  refine OPS.val rfl rfl rfl (Ev.load1 (agg_run rfl) rfl (by exact H.ldL 3 rfl _ rfl)) ?_
  refine OPS.val rfl rfl rfl (Ev.fieldAddr (fld_run rfl) rfl) ?_
  refine OPS.val rfl rfl rfl (Ev.load1 (agg_run rfl) rfl (by exact H.ldL 1 rfl _ rfl)) ?_
  refine OPS.val rfl rfl rfl (Ev.add rfl rfl (by unfold fits; omega)) ?_
  refine OPS.val rfl rfl rfl ((by exact Ev.nilCheckP rfl)) ?_
  refine OPS.val rfl rfl rfl (Ev.fieldAddr (fld_run rfl) rfl) ?_
  refine OPS.nil_s ?_
  refine OPS.store 3 _ rfl rfl rfl (size_run rfl) rfl (cI rfl) rfl rfl H rfl (by simp) ?_
  clear H; intro w H; try simp only [List.set_cons_zero, List.set_cons_succ, putL, Nat.zero_add] at H
  refine OPS.nil ?_
  refine WP.seq ?_
  refine WP.rtail 19 mixed (by kernel_rfl) H ?_
  clear H; intro w hbw9 H
  refine OPS.val rfl rfl rfl (Ev.mvP rfl) ?_
  refine OPS.val rfl rfl rfl ((by exact Ev.nilCheckP rfl)) ?_
  refine OPS.val rfl rfl rfl (Ev.fieldAddr (fld_run rfl) rfl) ?_
  refine OPS.val rfl rfl rfl (Ev.load1 (agg_run rfl) rfl (by exact H.ldL 3 rfl _ rfl)) ?_
  refine OPS.val rfl rfl rfl (Ev.fieldAddr (fld_run rfl) rfl) ?_
  refine OPS.val rfl rfl rfl (Ev.load1 (agg_run rfl) rfl (by exact H.ldL 1 rfl _ rfl)) ?_
  refine OPS.val rfl rfl rfl (Ev.fieldAddr (fld_run rfl) rfl) ?_
  refine OPS.val rfl rfl rfl (Ev.load1 (agg_run rfl) rfl (by exact H.ldL 1 rfl _ rfl)) ?_
  refine OPS.val rfl rfl rfl (Ev.neg rfl (by unfold fits; omega)) ?_
  refine OPS.val rfl rfl rfl (Ev.max rfl rfl) ?_
  refine OPS.val rfl rfl rfl (Ev.mvP rfl) ?_
  refine OPS.val rfl rfl rfl ((by exact Ev.nilCheckP rfl)) ?_
  refine OPS.val rfl rfl rfl (Ev.fieldAddr (fld_run rfl) rfl) ?_
  refine OPS.val rfl rfl rfl (Ev.fieldAddr (fld_run rfl) rfl) ?_
  refine OPS.val rfl rfl rfl (Ev.load1 (agg_run rfl) rfl (by exact H.ldL 3 rfl _ rfl)) ?_
  refine OPS.val rfl rfl rfl (Ev.mul rfl rfl (by unfold fits; omega)) ?_
  refine OPS.val rfl rfl rfl (Ev.add rfl rfl (by unfold fits; omega)) ?_
  refine OPS.val rfl rfl rfl ((by exact Ev.nilCheckP rfl)) ?_
  refine OPS.val rfl rfl rfl (Ev.fieldAddr (fld_run rfl) rfl) ?_
  refine OPS.nil_s ?_
  refine OPS.store 3 _ rfl rfl rfl (size_run rfl) rfl (cI rfl) rfl rfl H rfl (by simp) ?_
  clear H; intro w H; try simp only [List.set_cons_zero, List.set_cons_succ, putL, Nat.zero_add] at H
  refine OPS.nil ?_
  refine WP.seq ?_
  have Hf := H
  replace H := H.drop (L' := [_]) ((((List.Sublist.refl _).cons _).cons _).cons _)
  refine WP.rheldC [74, 75, 76, 77, 78, 79, 80, 81, 82, 83] (fun _ w' => SH w0 S w' [⟨g8, 99, visCells (visitV d hd i ns[i] s)⟩, ⟨g6, 64, [I v, I ns[i].move]⟩, ⟨g4, 99, [I 0, I 0, I 0, I 0]⟩, ⟨g, 70, tourCells t (nightL m A B (some ⟨bn, on, none⟩) l.length tl ns.length ca cb cc hd) (visitT d hd ns[i] s)⟩]) mixed H ?_ ?_
  · clear H; intro w hbw10 H
    refine OPH.take 0 rfl rfl rfl rfl (by kernel_rfl) (by kernel_rfl) (by kernel_rfl) rfl (by exact H) (fun w H => Ev.mvP rfl) ?_
    refine OPH.take 1 rfl rfl rfl rfl (by kernel_rfl) (by kernel_rfl) (by kernel_rfl) rfl (by exact H) (fun w H => (by exact Ev.nilCheckP rfl)) ?_
    refine OPH.take 2 rfl rfl rfl rfl (by kernel_rfl) (by kernel_rfl) (by kernel_rfl) rfl (by exact H) (fun w H => Ev.fieldAddr (fld_run rfl) rfl) ?_
    refine OPH.take 3 rfl rfl rfl rfl (by kernel_rfl) (by kernel_rfl) (by kernel_rfl) rfl (by exact H) (fun w H => Ev.load1 (agg_run rfl) rfl (by exact H.ldL 0 rfl _ rfl)) ?_
    refine OPH.take 4 rfl rfl rfl rfl (by kernel_rfl) (by kernel_rfl) (by kernel_rfl) rfl (by exact H) (fun w H => Ev.mvP rfl) ?_
    refine OPH.take 5 rfl rfl rfl rfl (by kernel_rfl) (by kernel_rfl) (by kernel_rfl) rfl (by exact H) (fun w H => (by exact Ev.nilCheckP rfl)) ?_
    refine OPH.take 6 rfl rfl rfl rfl (by kernel_rfl) (by kernel_rfl) (by kernel_rfl) rfl (by exact H) (fun w H => Ev.fieldAddr (fld_run rfl) rfl) ?_
    refine OPH.take 7 rfl rfl rfl rfl (by kernel_rfl) (by kernel_rfl) (by kernel_rfl) rfl (by exact H) (fun w H => Ev.load1 (agg_run rfl) rfl (by exact H.ldL 0 rfl _ rfl)) ?_
    refine OPH.take 8 rfl rfl rfl rfl (by kernel_rfl) (by kernel_rfl) (by kernel_rfl) rfl (by exact H) (fun w H => Ev.fieldAddr (fld_run rfl) rfl) ?_
    refine OPH.all [9] (by kernel_rfl) (by simp) rfl ?_
    intro i hi; simp only [List.mem_cons, List.not_mem_nil, or_false] at hi
    rcases hi with rfl
    · refine ⟨_, rfl, ?_⟩
      try replace Hf := Hf.toBelow hbw10
      refine OPS.store 0 _ rfl rfl rfl (size_run rfl) rfl (cI rfl) rfl rfl Hf rfl (by simp) ?_
      clear H Hf; intro w Hf
      simp only [List.set_cons_zero, List.set_cons_succ, putL, Nat.zero_add] at Hf
      have H := Hf.drop (L' := [_]) ((((List.Sublist.refl _).cons _).cons _).cons _)
      refine OPS.nil ?_
      refine ⟨(by exact H), ?_⟩
      refine OPH.take 10 rfl rfl rfl rfl (by kernel_rfl) (by kernel_rfl) (by kernel_rfl) rfl (by exact H) (fun w H => Ev.fieldAddr (fld_run rfl) rfl) ?_
      refine OPH.all [11] (by kernel_rfl) (by simp) rfl ?_
      intro i hi; simp only [List.mem_cons, List.not_mem_nil, or_false] at hi
      rcases hi with rfl
      · refine ⟨_, rfl, ?_⟩
        try replace Hf := Hf.toBelow hbw10
        refine OPS.store 0 _ rfl rfl rfl (size_run rfl) rfl (cI rfl) rfl rfl Hf rfl (by simp) ?_
        clear H Hf; intro w Hf
        simp only [List.set_cons_zero, List.set_cons_succ, putL, Nat.zero_add] at Hf
        have H := Hf.drop (L' := [_]) ((((List.Sublist.refl _).cons _).cons _).cons _)
        refine OPS.nil ?_
        refine ⟨(by exact H), ?_⟩
        refine OPH.done (by kernel_rfl) ?_
        exact ⟨(by repeat (first | exact Agree.refl _ _ | exact Agree.mix _ _ _ | refine Agree.upd rfl ?_ | refine Agree.mix2 rfl ?_)), (by unfold visitT; rw [hvT]; exact Hf)⟩
  clear H
  rintro u w H
  refine WP.seq ?_
  refine WP.region ?_
  refine OPS.val rfl rfl rfl ((by exact Ev.loadO 0 H rfl (agg_run rfl) (size_run rfl) (by rfl) rfl)) ?_
  refine OPS.store 2 _ rfl rfl rfl (size_run rfl) rfl (cA rfl) rfl rfl H rfl (by simp) ?_
  clear H; intro w H; try simp only [List.set_cons_zero, List.set_cons_succ, putL, Nat.zero_add] at H
  refine OPS.val rfl rfl rfl (Ev.asI rfl) ?_
  refine OPS.nil ?_
  refine WP.ret ⟨[_, _], ⟨(by exact resCellA 2 H rfl (agg_run rfl) (size_run rfl) (by rfl) rfl), rfl, trivial⟩, ?_⟩
  exact ⟨rfl, fun _ => H.drop (L' := [_]) ((((List.Sublist.refl _).cons _).cons _).cons _), _, H⟩
def homeE (d hd : Int) (t : Truck) (s : TS) : Int := if d < 0 then 15 else if t.to_ < s.now + d + s.load * hd then 25 else 0
def homeT (d hd : Int) (t : Truck) (s : TS) : TS := ⟨t.depot.toNat, s.now + d + s.load * hd, s.load, s.driven + d⟩
set_option maxHeartbeats 1000000 in
theorem tourHome (g m : Nat) (A B C : Option Addr) (l : List Edg) (tl nl ca cb cc : Nat) (hd : Int) (t : Truck) (s : TS) (w0 : World) (hok : RoadOk m l) (hs : s.at_ < m) (hb : -100000000000 ≤ s.now ∧ s.now ≤ 100000000000 ∧ -100000000000 ≤ s.driven ∧ s.driven ≤ 100000000000 ∧ -100000 ≤ s.load ∧ s.load ≤ 100000)
    (hx : 0 ≤ t.depot ∧ t.depot < m) (hh : 0 ≤ hd ∧ hd ≤ 3600)
    (hz : EdgsAt w0 A l) (hA : l ≠ [] → Off A [g]) (H0 : SH w0 [g] w0 [⟨g, 70, tourCells t (nightL m A B C l.length tl nl ca cb cc hd) s⟩]) :
    Calls Try.prog 59 #[.pointer (some ⟨g, 0, none⟩)] w0 fun e w' => e = .returned (I (homeE (roadT m l s.at_ t.depot.toNat) hd t s)) ∧
      (homeE (roadT m l s.at_ t.depot.toNat) hd t s = 0 → SH w0 [g] w' [⟨g, 70, tourCells t (nightL m A B C l.length tl nl ca cb cc hd) (homeT (roadT m l s.at_ t.depot.toNat) hd t s)⟩]) ∧ ∃ L, SH w0 [g] w' L := by
  have H := H0
  obtain ⟨v, hv⟩ := Int.eq_ofNat_of_zero_le hx.1
  have hvm : v < m := by omega
  have hvT : t.depot.toNat = v := by omega
  rw [hvT]
  have hbd := roadT_bd hok hs hvm
  generalize hD : roadT m l s.at_ v = d at *
  have hmul : -360000000 ≤ s.load * hd ∧ s.load * hd ≤ 360000000 := by
    have h1 : s.load * hd ≤ 100000 * hd := Int.mul_le_mul_of_nonneg_right hb.2.2.2.2.2 hh.1
    have h2 : -100000 * hd ≤ s.load * hd := Int.mul_le_mul_of_nonneg_right hb.2.2.2.2.1 hh.1
    omega
  unfold tourCells truckCells nightL at H
  simp only [List.cons_append, List.nil_append] at H
  rw [hv] at H
  refine Calls.ofWP Try.func59 rfl Try.results59 Try.ntmps59 rfl ?_
  refine WP.seq ?_
  refine WP.region ?_
  refine OPS.val rfl rfl rfl (Ev.asI rfl) ?_
  refine OPS.nil ?_
  refine WP.seq ?_
  refine WP.seq ?_
  refine WP.region ?_
  refine OPS.val rfl rfl rfl (Ev.mvP rfl) ?_
  refine OPS.val rfl rfl rfl (Ev.mvP rfl) ?_
  refine OPS.val rfl rfl rfl ((by exact Ev.nilCheckP rfl)) ?_
  refine OPS.val rfl rfl rfl (Ev.fieldAddr (fld_run rfl) rfl) ?_
  refine OPS.val rfl rfl rfl (Ev.fieldAddr (fld_run rfl) rfl) ?_
  refine OPS.val rfl rfl rfl (Ev.load1 (agg_run rfl) rfl (by exact H.ldL 0 rfl _ rfl)) ?_
  refine OPS.call (d := some 10) rfl rfl rfl (EvC.func (fun_run rfl)) (tourDrive g m v A B C l tl nl ca cb cc hd t s w0 [g] hok hvm hs (by omega) hz hA H0) ?_
  rintro _ w ⟨rfl, Hg, Lx, Hx⟩
  refine ⟨_, rfl, ?_⟩
  rw [hD] at Hg
  replace H := Hx
  clear Hx
  rw [hD]
  refine OPS.val rfl rfl rfl (Ev.asI rfl) ?_
  refine OPS.nil ?_
  refine WP.seq ?_
  refine WP.region ?_
  refine OPS.val rfl rfl rfl (Ev.mvI rfl) ?_
  refine OPS.val rfl rfl rfl (Ev.neq rfl rfl) ?_
  refine OPS.nil ?_
  refine WP.cond rfl (fun hc2 => ?_) (fun hc2 => ?_)
  · have hdn : d < 0 := by
      rcases Int.lt_or_le d 0 with h | h
      · exact h
      · rw [driveE, if_neg (by omega)] at hc2; simp at hc2
    rw [driveE, if_pos hdn]
    clear Hg
    refine WP.seq ?_
    refine WP.region ?_
    refine OPS.val rfl rfl rfl (Ev.mvI rfl) ?_
    refine OPS.val rfl rfl rfl (Ev.asI rfl) ?_
    refine OPS.nil ?_
    refine WP.ret ⟨_, rfl, ?_⟩
    have he : homeE d hd t s = 15 := by rw [homeE, if_pos hdn]
    rw [he]
    exact ⟨rfl, fun h => absurd h (by decide), _, H⟩
  have hdp : 0 ≤ d := by
    rcases Int.lt_or_le d 0 with h | h
    · rw [driveE, if_pos h] at hc2; simp at hc2
    · exact h
  replace H := Hg hdp
  clear Hg
  unfold tourCells truckCells nightL driveS at H
  simp only [List.cons_append, List.nil_append] at H
  refine WP.skip ?_
  refine WP.seq ?_
  refine WP.rtail 17 mixed (by kernel_rfl) H ?_
  clear H; intro w hbw4 H
  refine OPS.val rfl rfl rfl (Ev.mvP rfl) ?_
  refine OPS.val rfl rfl rfl ((by exact Ev.nilCheckP rfl)) ?_
  refine OPS.val rfl rfl rfl (Ev.fieldAddr (fld_run rfl) rfl) ?_
  refine OPS.val rfl rfl rfl (Ev.load1 (agg_run rfl) rfl (by exact H.ldL 0 rfl _ rfl)) ?_
  refine OPS.val rfl rfl rfl (Ev.mvP rfl) ?_
  refine OPS.val rfl rfl rfl ((by exact Ev.nilCheckP rfl)) ?_
  refine OPS.val rfl rfl rfl (Ev.fieldAddr (fld_run rfl) rfl) ?_
  refine OPS.val rfl rfl rfl (Ev.load1 (agg_run rfl) rfl (by exact H.ldL 0 rfl _ rfl)) ?_
  refine OPS.val rfl rfl rfl (Ev.mvP rfl) ?_
  refine OPS.val rfl rfl rfl ((by exact Ev.nilCheckP rfl)) ?_
  refine OPS.val rfl rfl rfl (Ev.fieldAddr (fld_run rfl) rfl) ?_
  refine OPS.val rfl rfl rfl (Ev.fieldAddr (fld_run rfl) rfl) ?_
  refine OPS.val rfl rfl rfl (Ev.load1 (agg_run rfl) rfl (by exact H.ldL 0 rfl _ rfl)) ?_
  refine OPS.val rfl rfl rfl (Ev.mul rfl rfl (by unfold fits; omega)) ?_
  refine OPS.val rfl rfl rfl (Ev.add rfl rfl (by unfold fits; omega)) ?_
  refine OPS.val rfl rfl rfl ((by exact Ev.nilCheckP rfl)) ?_
  refine OPS.val rfl rfl rfl (Ev.fieldAddr (fld_run rfl) rfl) ?_
  refine OPS.nil_s ?_
  refine OPS.store 0 _ rfl rfl rfl (size_run rfl) rfl (cI rfl) rfl rfl H rfl (by simp) ?_
  clear H; intro w H; try simp only [List.set_cons_zero, List.set_cons_succ, putL, Nat.zero_add] at H
  refine OPS.nil ?_
  refine WP.seq ?_
  refine WP.seq ?_
  refine WP.rstill mixed (by kernel_rfl) H ?_
  clear H; intro w hbw5 H
  refine OPS.val rfl rfl rfl (Ev.mvP rfl) ?_
  refine OPS.val rfl rfl rfl ((by exact Ev.nilCheckP rfl)) ?_
  refine OPS.val rfl rfl rfl (Ev.fieldAddr (fld_run rfl) rfl) ?_
  refine OPS.val rfl rfl rfl (Ev.load1 (agg_run rfl) rfl (by exact H.ldL 0 rfl _ rfl)) ?_
  refine OPS.val rfl rfl rfl (Ev.mvP rfl) ?_
  refine OPS.val rfl rfl rfl ((by exact Ev.nilCheckP rfl)) ?_
  refine OPS.val rfl rfl rfl (Ev.fieldAddr (fld_run rfl) rfl) ?_
  refine OPS.val rfl rfl rfl (Ev.fieldAddr (fld_run rfl) rfl) ?_
  refine OPS.val rfl rfl rfl (Ev.fieldAddr (fld_run rfl) rfl) ?_
  refine OPS.val rfl rfl rfl (Ev.load1 (agg_run rfl) rfl (by exact H.ldL 0 rfl _ rfl)) ?_
  refine OPS.val rfl rfl rfl (Ev.gtr rfl rfl) ?_
  refine OPS.nil_s ?_
  refine WP.cond rfl (fun hc5 => ?_) (fun hc5 => ?_)
  · refine WP.seq ?_
    refine WP.region ?_
    refine OPS.val rfl rfl rfl (Ev.asI rfl) ?_
    refine OPS.nil ?_
    refine WP.ret ⟨_, rfl, ?_⟩
    have hlt : t.to_ < s.now + d + s.load * hd := by simpa using hc5
    have he : homeE d hd t s = 25 := by rw [homeE, if_neg (by omega), if_pos hlt]
    rw [he]
    exact ⟨rfl, fun h => absurd h (by decide), _, H⟩
  refine WP.skip ?_
  refine WP.seq ?_
  refine WP.region ?_
  refine OPS.val rfl rfl rfl (Ev.asI rfl) ?_
  refine OPS.nil ?_
  refine WP.ret ⟨_, rfl, ?_⟩
  have hlt : ¬ t.to_ < s.now + d + s.load * hd := by simpa using hc5
  have he : homeE d hd t s = 0 := by rw [homeE, if_neg (by omega), if_neg hlt]
  rw [he]
  exact ⟨rfl, fun _ => by unfold homeT; rw [hvT]; exact H, _, H⟩
end Go.Proofs.Ytfddebpeiilohaa

/-
  Walk: walk.
-/
set_option linter.all false
namespace Go.Proofs.Ytfddebpeiilohaa
open Go Go.W Go.RowKit

section
variable (D : Nat → Nat → Int) (cap hd : Int) (ns : List Need)
def needAt (i : Int) : Need := ns.getD i.toNat default
def goD (i : Int) (s : TS) : Int := D s.at_ (needAt ns i).node.toNat
def goT : List Int → TS → TS
  | [], s => s
  | i :: r, s => goT r (visitT (goD D ns i s) hd (needAt ns i) s)
def goE : List Int → TS → Int
  | [], _ => 0
  | i :: r, s => if visitE (goD D ns i s) cap (needAt ns i) s ≠ 0 then visitE (goD D ns i s) cap (needAt ns i) s else goE r (visitT (goD D ns i s) hd (needAt ns i) s)
def goV : List Int → TS → List Vis
  | [], _ => []
  | i :: r, s => visitV (goD D ns i s) hd i (needAt ns i) s :: goV r (visitT (goD D ns i s) hd (needAt ns i) s)
theorem goT_app : ∀ (a b : List Int) (s : TS), goT D hd ns (a ++ b) s = goT D hd ns b (goT D hd ns a s)
  | [], _, _ => rfl
  | _ :: a, b, s => goT_app a b _
theorem goV_app : ∀ (a b : List Int) (s : TS), goV D hd ns (a ++ b) s = goV D hd ns a s ++ goV D hd ns b (goT D hd ns a s)
  | [], _, _ => rfl
  | _ :: a, b, s => congrArg (_ :: ·) (goV_app a b _)
theorem goE_app : ∀ (a b : List Int) (s : TS), goE D cap hd ns (a ++ b) s = if goE D cap hd ns a s ≠ 0 then goE D cap hd ns a s else goE D cap hd ns b (goT D hd ns a s)
  | [], b, s => by simp [goE, goT]
  | i :: a, b, s => by
    have h := goE_app a b (visitT (goD D ns i s) hd (needAt ns i) s)
    show (if visitE (goD D ns i s) cap (needAt ns i) s ≠ 0 then visitE (goD D ns i s) cap (needAt ns i) s else goE D cap hd ns (a ++ b) (visitT (goD D ns i s) hd (needAt ns i) s)) = _
    rw [h]
    simp only [goE, goT]
    by_cases hv : visitE (goD D ns i s) cap (needAt ns i) s = 0
    · simp [hv]
    · simp [hv]
theorem goV_len : ∀ (a : List Int) (s : TS), (goV D hd ns a s).length = a.length
  | [], _ => rfl
  | _ :: a, s => congrArg (· + 1) (goV_len a _)
end
def startT (t : Truck) : TS := ⟨t.depot.toNat, t.from_, 0, 0⟩
def outB (k i : Int) : Bool := !inB i 0 (k - 1)
def routeErr (ts : List Truck) (ns : List Need) (rt : Int) (rn : List Int) : Int :=
  if outB ts.length rt = true ∨ rn.any (outB ns.length) = true then 7 else if twiceB rn = true then 6 else 0
noncomputable def roadD (n : Int) (l : List Edg) (a v : Nat) : Int := roadT n.toNat l a v
noncomputable def endT (n : Int) (l : List Edg) (ts : List Truck) (ns : List Need) (hd : Int) (rt : Int) (rn : List Int) : TS :=
  goT (roadD n l) hd ns rn (startT (ts.getD rt.toNat default))
noncomputable def walkE (n : Int) (l : List Edg) (ts : List Truck) (ns : List Need) (hd : Int) (rt : Int) (rn : List Int) : Int :=
  if nightErr n l ts ns hd ≠ 0 then nightErr n l ts ns hd else if routeErr ts ns rt rn ≠ 0 then routeErr ts ns rt rn
  else if goE (roadD n l) (ts.getD rt.toNat default).cap hd ns rn (startT (ts.getD rt.toNat default)) ≠ 0 then goE (roadD n l) (ts.getD rt.toNat default).cap hd ns rn (startT (ts.getD rt.toNat default))
  else homeE (roadD n l (endT n l ts ns hd rt rn).at_ (ts.getD rt.toNat default).depot.toNat) hd (ts.getD rt.toNat default) (endT n l ts ns hd rt rn)
noncomputable def walkT (n : Int) (l : List Edg) (ts : List Truck) (ns : List Need) (hd : Int) (rt : Int) (rn : List Int) : TS :=
  homeT (roadD n l (endT n l ts ns hd rt rn).at_ (ts.getD rt.toNat default).depot.toNat) hd (ts.getD rt.toNat default) (endT n l ts ns hd rt rn)
noncomputable def walkV (n : Int) (l : List Edg) (ts : List Truck) (ns : List Need) (hd : Int) (rt : Int) (rn : List Int) : List Vis :=
  goV (roadD n l) hd ns rn (startT (ts.getD rt.toNat default))

/-- what a good night gives -/
structure NightOk (m : Nat) (l : List Edg) (ts : List Truck) (ns : List Need) (hd : Int) : Prop where
  road : RoadOk m l
  tl : ts.length ≤ 8
  nl : ns.length ≤ 16
  tr : ∀ t ∈ ts, (0 ≤ t.depot ∧ t.depot < m) ∧ (1 ≤ t.cap ∧ t.cap ≤ 32) ∧ 0 ≤ t.from_ ∧ t.from_ ≤ t.to_ ∧ t.to_ ≤ 86400
  nd : ∀ x ∈ ns, (0 ≤ x.node ∧ x.node < m) ∧ x.move ≠ 0 ∧ -32 ≤ x.move ∧ x.move ≤ 32
  hh : 0 ≤ hd ∧ hd ≤ 3600
  one : (ns.map (·.node)).Nodup
theorem nightOk_of {n : Int} {l : List Edg} {ts : List Truck} {ns : List Need} {hd : Int} (h : nightErr n l ts ns hd = 0) : ∃ m : Nat, n = m ∧ NightOk m l ts ns hd := by
  unfold nightErr at h
  split at h
  · rename_i h1; exact absurd h h1
  · rename_i h1
    obtain ⟨m, rfl, hok⟩ := roadOk_of (by simpa using h1)
    split at h
    · cases h
    · rename_i h2
      split at h
      · rename_i h3; exact absurd h h3
      · rename_i h3
        split at h
        · rename_i h4; exact absurd h h4
        · rename_i h4
          split at h
          · cases h
          · rename_i h5
            split at h
            · rename_i h6
              have h2' : ts.length ≤ 8 ∧ ns.length ≤ 16 := by simp [fullB] at h2; omega
              refine ⟨m, rfl, hok, h2'.1, h2'.2, fun t ht => ?_, fun x hx => ?_, by simpa [inB] using h6, ?_⟩
              · have := trucksErr_ok (by simpa using h3) t ht
                simp [truckBad, truckRange, inB] at this
                omega
              · have := needsErr_ok (by simpa using h4) x hx
                simp [needBad, needRange, inB] at this
                omega
              · simpa [needTwice, twiceB] using h5
            · cases h
/-- numbers of a range, none twice -/
theorem nodup_len {rn : List Int} {N : Nat} (h1 : rn.Nodup) (h2 : ∀ i ∈ rn, 0 ≤ i ∧ i < N) : rn.length ≤ N := by
  have h3 : (rn.map Int.toNat).Nodup := by
    rw [List.nodup_iff_pairwise_ne, List.pairwise_map]
    refine List.Pairwise.imp_of_mem ?_ (List.nodup_iff_pairwise_ne.1 h1)
    intro a b ha hb hne he
    have := h2 a ha
    have := h2 b hb
    omega
  have h4 : (rn.map Int.toNat).length ≤ (List.range N).length := by
    refine List.Nodup.length_le_of_subset h3 (fun x hx => ?_)
    obtain ⟨i, hi, rfl⟩ := List.mem_map.1 hx
    have := h2 i hi
    simp; omega
  simpa using h4
theorem routeOk_of {ts : List Truck} {ns : List Need} {rt : Int} {rn : List Int} (h : routeErr ts ns rt rn = 0) : (0 ≤ rt ∧ rt < ts.length) ∧ (∀ i ∈ rn, 0 ≤ i ∧ i < ns.length) ∧ rn.Nodup ∧ rn.length ≤ ns.length := by
  unfold routeErr at h
  split at h
  · cases h
  · rename_i h1
    split at h
    · cases h
    · rename_i h2
      have h3 : rn.Nodup := by simpa [twiceB] using h2
      have h4 : ∀ i ∈ rn, 0 ≤ i ∧ i < ns.length := fun i hi => by
        have h5 : outB ns.length i = false := by
          cases hc : outB ns.length i with
          | true => exact absurd (Or.inr (List.any_eq_true.2 ⟨i, hi, hc⟩)) h1
          | false => rfl
        simp [outB, inB] at h5; omega
      refine ⟨?_, h4, h3, nodup_len h3 h4⟩
      have h5 : outB ts.length rt = false := by
        cases hc : outB ts.length rt with
        | true => exact absurd (Or.inl hc) h1
        | false => rfl
      simp [outB, inB] at h5; omega
/-- the state after some visits stays within bounds -/
structure TSOk (m : Nat) (cap : Int) (j : Nat) (s : TS) : Prop where
  at_ : s.at_ < m
  now : 0 ≤ s.now ∧ s.now ≤ 86400 + 200000 * j
  driven : 0 ≤ s.driven ∧ s.driven ≤ 64000 * j
  load : 0 ≤ s.load ∧ s.load ≤ cap
end Go.Proofs.Ytfddebpeiilohaa
