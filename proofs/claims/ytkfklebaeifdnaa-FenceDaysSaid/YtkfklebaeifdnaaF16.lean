/-
  Walk: the windows of a day.
-/
import Derived.Test.YtkfklebaeifdnaaF15
set_option linter.all false
namespace Go.Proofs.Ytkfklebaeifdnaa
open Go Go.W Go.RowKit

def cutsL (fi : Int) (fs : List Fen) : List Int := fi :: (fi + 86400) :: (endsL fi fs).filter (inDay fi)
theorem filt4 (fi a b c d : Int) : [a, b, c, d].filter (inDay fi) = (((if inDay fi a = true then [a] else []) ++ (if inDay fi b = true then [b] else [])) ++ (if inDay fi c = true then [c] else [])) ++ (if inDay fi d = true then [d] else []) := by
  simp only [List.filter_cons, List.filter_nil]
  cases inDay fi a <;> cases inDay fi b <;> cases inDay fi c <;> cases inDay fi d <;> rfl
theorem cutsL_take {fi : Int} {fs : List Fen} {i : Nat} (h : i < fs.length) : cutsL fi (fs.take (i + 1)) = (((cutsL fi (fs.take i) ++ (if inDay fi fs[i].wf = true then [fs[i].wf] else [])) ++ (if inDay fi fs[i].wt = true then [fs[i].wt] else [])) ++ (if inDay fi (fi + fs[i].hf) = true then [fi + fs[i].hf] else [])) ++ (if inDay fi (fi + fs[i].ht) = true then [fi + fs[i].ht] else []) := by
  unfold cutsL
  rw [ends_take h, List.filter_append, filt4]
  simp only [List.cons_append, List.append_assoc]
theorem ends_len (fi : Int) (fs : List Fen) : (endsL fi fs).length = 4 * fs.length := by
  unfold endsL
  induction fs with
  | nil => rfl
  | cons f fs ih => simp only [List.flatMap_cons, List.length_append, ih]; simp; omega
theorem cutsL_len (fi : Int) (fs : List Fen) : (cutsL fi fs).length ≤ 4 * fs.length + 2 := by
  unfold cutsL
  have := List.length_filter_le (inDay fi) (endsL fi fs)
  rw [ends_len] at this
  simp only [List.length_cons]; omega
theorem addLen {l l' : List Int} {b : Bool} {t : Int} (h : l' = l ++ (if b = true then [t] else [])) : l'.length ≤ l.length + 1 := by rw [h, List.length_append]; split <;> simp
structure CutOk (fs : List Fen) (fi : Int) (cs : List Int) : Prop where
  two : 2 ≤ cs.length
  first : cs.getD 0 0 = fi
  last : cs.getD (cs.length - 1) 0 = fi + 86400
  lt : ∀ i, i + 1 < cs.length → cs.getD i 0 < cs.getD (i + 1) 0
  noc : ∀ i, i + 1 < cs.length → ∀ t, cs.getD i 0 < t → t < cs.getD (i + 1) 0 → ¬ Chg fs t
  low : ∀ i, i < cs.length → fi ≤ cs.getD i 0 ∧ cs.getD i 0 ≤ fi + 86400
theorem cuts_ok {fs : List Fen} {fi d : Int} (hd : fi = d * 86400) (h0 : 0 ≤ d ∧ d ≤ 49709) : CutOk fs fi (cmpT (srt (cutsL fi fs)) (cutsL fi fs).length) := by
  obtain ⟨cs, hcs⟩ : ∃ cs, cs = cmpT (srt (cutsL fi fs)) (cutsL fi fs).length := ⟨_, rfl⟩
  rw [← hcs]
  have hl := srt_len (cutsL fi fs)
  have hsort : cs.Pairwise fun x y => x < y := by rw [hcs]; exact cmpT_sorted (srt_sorted _) (by omega)
  have hmem : ∀ x, x ∈ cs ↔ x ∈ cutsL fi fs := fun x => by
    rw [hcs, cmpT_mem (by omega), List.take_of_length_le (by omega)]
    exact (srt_perm _).mem_iff
  have hp := List.pairwise_iff_getElem.1 hsort
  have hrng : ∀ x ∈ cs, fi ≤ x ∧ x ≤ fi + 86400 := fun x hx => by
    rw [hmem] at hx
    unfold cutsL at hx
    rcases List.mem_cons.1 hx with rfl | hx
    · omega
    · rcases List.mem_cons.1 hx with rfl | hx
      · omega
      · have := (List.mem_filter.1 hx).2
        unfold inDay at this; simp at this; omega
  obtain ⟨a, ha, hae⟩ := List.mem_iff_getElem.1 ((hmem fi).2 List.mem_cons_self)
  obtain ⟨b, hb, hbe⟩ := List.mem_iff_getElem.1 ((hmem (fi + 86400)).2 (List.mem_cons_of_mem _ List.mem_cons_self))
  have hab : a ≠ b := fun e => by subst e; omega
  have h0a : a = 0 := by
    rcases Nat.eq_zero_or_pos a with h | h
    · exact h
    · have h1 := hp 0 a (by omega) ha h
      have h2 := hrng cs[0] (List.getElem_mem (by omega))
      omega
  have hbl : b = cs.length - 1 := by
    rcases Nat.lt_or_ge b (cs.length - 1) with h | h
    · have h1 := hp b (cs.length - 1) hb (by omega) h
      have h2 := hrng (cs[cs.length - 1]'(by omega)) (List.getElem_mem (by omega))
      omega
    · omega
  refine ⟨by omega, by rw [getI (by omega)]; subst h0a; exact hae, by rw [getI (by omega)]; subst hbl; exact hbe, fun i hi => ?_, fun i hi t h1 h2 hc => ?_, fun i hi => ?_⟩
  · rw [getI (by omega), getI hi]; exact hp i (i + 1) (by omega) hi (by omega)
  · rw [getI (by omega)] at h1
    rw [getI hi] at h2
    have r1 := hrng cs[i] (List.getElem_mem (by omega))
    have r2 := hrng cs[i + 1] (List.getElem_mem (by omega))
    have hte := chg_end hd h0 (show fi < t by omega) (by omega) hc
    have htc : t ∈ cs := (hmem t).2 (List.mem_cons_of_mem _ (List.mem_cons_of_mem _ (List.mem_filter.2 ⟨hte, by unfold inDay; simp; omega⟩)))
    obtain ⟨j, hj, rfl⟩ := List.mem_iff_getElem.1 htc
    rcases Nat.lt_trichotomy j i with h | h | h
    · have := hp j i hj (by omega) h; omega
    · subst h; omega
    · by_cases hji : j = i + 1
      · subst hji; omega
      · have := hp (i + 1) j (by omega) hj (by omega); omega
  · rw [getI hi]; exact hrng _ (List.getElem_mem hi)
theorem putWi : ∀ (W : List Wi) (j : Nat) (h : j < W.length) (c : Int) (sp : List Value), putL (W.flatMap wiCells ++ sp) (0 + j * 2 + 1) [I c] = (W.set j (W[j].1, c)).flatMap wiCells ++ sp
  | x :: W, 0, _, c, sp => by simp [putL, wiCells]
  | x :: W, j + 1, h, c, sp => by
    have ih := putWi W j (by simpa using h) c sp
    simp only [putL, List.flatMap_cons, wiCells, List.cons_append, List.nil_append, List.set_cons_succ, List.getElem_cons_succ] at ih ⊢
    rw [show 0 + (j + 1) * 2 = (0 + j * 2 + 1) + 1 by omega, List.set_cons_succ, ih]
theorem wiCell {w0 w : World} {S : List Nat} {L : List Blk} (H : SH w0 S w L) (i : Nat) {g T : Nat} {W : List Wi} {sp : List Value} (hi : L[i]? = some ⟨g, T, W.flatMap wiCells ++ sp⟩) (j : Nat) (h : j < W.length) : w.cell? ⟨g, 0 + j * 2 + 0, none⟩ = some (I W[j].1) := by
  obtain ⟨b, o, e, hc⟩ := rowsOwn (enc := wiCells) (sz := 2) (post := sp) (l := W) wiCells_len H i hi j h
  cases e
  exact hc.1
set_option maxRecDepth 20000 in
set_option maxHeartbeats 4000000 in
theorem fenChanges (A : Option Addr) (fs : List Fen) (cap : Nat) (d : Int) (w0 : World) (hz : FensAt w0 A fs) :
    Calls Try.prog 20 #[.slice A fs.length cap, I d] w0 fun e w' => ∃ (S : Option Addr) (c : Nat) (L : List Blk) (W : List Wi), e = .returned (.tuple #[.slice S W.length c, I (chaErr fs d)]) ∧ ChaRet fs d W ∧ Reads L (fun w => RowsAt 2 wiCells w S W) ∧ SH w0 [] w' L := by
  have H := SH.refl w0
  refine Calls.ofWP Try.func20 rfl Try.results20 Try.ntmps20 rfl ?_
  refine WP.seq ?_
  refine WP.region ?_
  refine OPS.box rfl rfl rfl rfl (cS rfl) H ?_
  clear H; intro g2 w H
  refine OPS.val rfl rfl rfl (Ev.asS rfl) ?_
  refine OPS.val rfl rfl rfl (Ev.asI rfl) ?_
  refine OPS.nil ?_
  refine WP.seq ?_
  refine WP.seq ?_
  refine WP.region ?_
  refine OPS.val rfl rfl rfl (Ev.load1 (agg_run rfl) rfl (by first | exact H.ldL 0 rfl _ rfl | exact H.ldL 1 rfl _ rfl | exact H.ldL 2 rfl _ rfl | exact H.ldL 3 rfl _ rfl | exact H.ldL 4 rfl _ rfl | exact H.ldL 5 rfl _ rfl | exact H.ldL 6 rfl _ rfl | exact H.ldL 7 rfl _ rfl | exact H.ld0 (by assumption) | assumption | exact H.ldS (by assumption) (by assumption))) ?_
  refine OPS.call (d := some 18) rfl rfl rfl (EvC.func (fun_run rfl)) (fenCheck A fs cap w (hz.sh H)) ?_
  rintro _ w ⟨rfl, hb⟩
  refine ⟨_, rfl, ?_⟩
  replace H := H.toBelow hb; clear hb
  refine OPS.val rfl rfl rfl (Ev.asI rfl) ?_
  refine OPS.nil ?_
  refine WP.seq ?_
  refine WP.region ?_
  refine OPS.val rfl rfl rfl (Ev.mvI rfl) ?_
  refine OPS.val rfl rfl rfl (Ev.neq rfl rfl) ?_
  refine OPS.nil ?_
  refine WP.cond rfl (fun hc2 => ?_) (fun hc2 => ?_)
  · refine WP.seq ?_
    refine WP.region ?_
    refine OPS.val rfl rfl rfl (Ev.mvI rfl) ?_
    refine OPS.val rfl rfl rfl (Ev.asS rfl) ?_
    refine OPS.val rfl rfl rfl (Ev.asI rfl) ?_
    refine OPS.nil ?_
    refine WP.ret ⟨_, rfl, ?_⟩
    have h1 : chkErr fs ≠ 0 := by simpa using hc2
    have he : chaErr fs d = chkErr fs := by rw [chaErr, if_pos h1]
    rw [he]
    exact ⟨none, 0, [], [], rfl, ⟨fun h => absurd (he ▸ h) h1, fun _ => rfl⟩, fun _ _ _ _ => RowsAt.nil, H.drop (List.nil_sublist _)⟩
  have h1 : ¬ chkErr fs ≠ 0 := by simpa using hc2
  obtain ⟨kl, kf⟩ := chk_ok (Classical.not_not.1 h1)
  refine WP.skip ?_
  refine WP.seq ?_
  refine WP.seq ?_
  refine WP.region ?_
  refine OPS.val rfl rfl rfl (Ev.mvI rfl) ?_
  refine OPS.val rfl rfl rfl (Ev.lss rfl rfl) ?_
  refine OPS.val rfl rfl rfl (Ev.mvB rfl) ?_
  refine OPS.gval rfl rfl rfl rfl rfl (fun hg => Ev.mvI (by first | rfl | exact gvE hg rfl)) ?_
  refine OPS.gval rfl rfl rfl rfl rfl (fun hg => Ev.gtr (by first | rfl | exact gvE hg rfl) (by first | rfl | exact gvE hg rfl)) ?_
  refine OPS.val rfl rfl rfl ((by first | exact Ev.pickOr rfl rfl rfl | exact Ev.pickAnd rfl rfl rfl)) ?_
  refine OPS.nil ?_
  refine WP.cond rfl (fun hc4 => ?_) (fun hc4 => ?_)
  · refine WP.seq ?_
    refine WP.region ?_
    refine OPS.val rfl rfl rfl (Ev.asS rfl) ?_
    refine OPS.val rfl rfl rfl (Ev.asI rfl) ?_
    refine OPS.nil ?_
    refine WP.ret ⟨_, rfl, ?_⟩
    have h2 : d < 0 ∨ 49709 < d := by simp at hc4; omega
    have he : chaErr fs d = 1 := by rw [chaErr, if_neg h1, if_pos h2]
    rw [he]
    exact ⟨none, 0, [], [], rfl, ⟨fun h => absurd (he ▸ h) (by decide), fun _ => rfl⟩, fun _ _ _ _ => RowsAt.nil, H.drop (List.nil_sublist _)⟩
  have h2 : ¬ (d < 0 ∨ 49709 < d) := by simp at hc4; omega
  have he : chaErr fs d = 0 := by rw [chaErr, if_neg h1, if_neg h2]
  have hd0 : 0 ≤ d ∧ d ≤ 49709 := by omega
  obtain ⟨fi, hfi⟩ : ∃ fi, fi = d * 86400 := ⟨_, rfl⟩
  have hfb : 0 ≤ fi ∧ fi ≤ 4294857600 := by omega
  refine WP.skip ?_
  refine WP.seq ?_
  refine WP.region ?_
  refine OPS.val rfl rfl rfl (Ev.mvI rfl) ?_
  refine OPS.val rfl rfl rfl (Ev.mul rfl rfl (by unfold fits; omega)) ?_
  rw [← hfi]
  refine OPS.alloc rfl rfl rfl rfl (zero_run rfl) rfl H ?_
  clear H; intro g7 w H
  first | refine OPS.store 0 _ rfl rfl rfl (size_run rfl) rfl (cI rfl) rfl rfl H rfl (by simp) ?_ | refine OPS.store 1 _ rfl rfl rfl (size_run rfl) rfl (cI rfl) rfl rfl H rfl (by simp) ?_ | refine OPS.store 2 _ rfl rfl rfl (size_run rfl) rfl (cI rfl) rfl rfl H rfl (by simp) ?_ | refine OPS.store 3 _ rfl rfl rfl (size_run rfl) rfl (cI rfl) rfl rfl H rfl (by simp) ?_ | refine OPS.store 4 _ rfl rfl rfl (size_run rfl) rfl (cI rfl) rfl rfl H rfl (by simp) ?_ | refine OPS.store 5 _ rfl rfl rfl (size_run rfl) rfl (cI rfl) rfl rfl H rfl (by simp) ?_ | refine OPS.store 6 _ rfl rfl rfl (size_run rfl) rfl (cI rfl) rfl rfl H rfl (by simp) ?_ | refine OPS.store 7 _ rfl rfl rfl (size_run rfl) rfl (cI rfl) rfl rfl H rfl (by simp) ?_ | refine OPS.store 8 _ rfl rfl rfl (size_run rfl) rfl (cI rfl) rfl rfl H rfl (by simp) ?_
  clear H; intro w H; try simp only [List.set_cons_zero, List.set_cons_succ, putL, Nat.zero_add] at H
  refine OPS.nil ?_
  refine WP.seq ?_
  refine WP.region ?_
  refine OPS.val rfl rfl rfl (Ev.load1 (agg_run rfl) rfl (by first | exact H.ldL 0 rfl _ rfl | exact H.ldL 1 rfl _ rfl | exact H.ldL 2 rfl _ rfl | exact H.ldL 3 rfl _ rfl | exact H.ldL 4 rfl _ rfl | exact H.ldL 5 rfl _ rfl | exact H.ldL 6 rfl _ rfl | exact H.ldL 7 rfl _ rfl | exact H.ld0 (by assumption) | assumption | exact H.ldS (by assumption) (by assumption))) ?_
  refine OPS.val rfl rfl rfl (Ev.load1 (agg_run rfl) rfl (by first | exact H.ldL 0 rfl _ rfl | exact H.ldL 1 rfl _ rfl | exact H.ldL 2 rfl _ rfl | exact H.ldL 3 rfl _ rfl | exact H.ldL 4 rfl _ rfl | exact H.ldL 5 rfl _ rfl | exact H.ldL 6 rfl _ rfl | exact H.ldL 7 rfl _ rfl | exact H.ld0 (by assumption) | assumption | exact H.ldS (by assumption) (by assumption))) ?_
  refine OPS.val rfl rfl rfl (Ev.add rfl rfl (by unfold fits; omega)) ?_
  refine OPS.buildSlice rfl rfl rfl rfl (bsl_39_2_0_1 rfl rfl) H ?_
  clear H; intro g33 w H
  refine OPS.alloc rfl rfl rfl rfl (zero_run rfl) rfl H ?_
  clear H; intro g8 w H
  first | refine OPS.store 0 _ rfl rfl rfl (size_run rfl) rfl (cS rfl) rfl rfl H rfl (by simp) ?_ | refine OPS.store 1 _ rfl rfl rfl (size_run rfl) rfl (cS rfl) rfl rfl H rfl (by simp) ?_ | refine OPS.store 2 _ rfl rfl rfl (size_run rfl) rfl (cS rfl) rfl rfl H rfl (by simp) ?_ | refine OPS.store 3 _ rfl rfl rfl (size_run rfl) rfl (cS rfl) rfl rfl H rfl (by simp) ?_ | refine OPS.store 4 _ rfl rfl rfl (size_run rfl) rfl (cS rfl) rfl rfl H rfl (by simp) ?_ | refine OPS.store 5 _ rfl rfl rfl (size_run rfl) rfl (cS rfl) rfl rfl H rfl (by simp) ?_ | refine OPS.store 6 _ rfl rfl rfl (size_run rfl) rfl (cS rfl) rfl rfl H rfl (by simp) ?_ | refine OPS.store 7 _ rfl rfl rfl (size_run rfl) rfl (cS rfl) rfl rfl H rfl (by simp) ?_ | refine OPS.store 8 _ rfl rfl rfl (size_run rfl) rfl (cS rfl) rfl rfl H rfl (by simp) ?_
  clear H; intro w H; try simp only [List.set_cons_zero, List.set_cons_succ, putL, Nat.zero_add] at H
  refine OPS.nil ?_
  refine WP.seq ?_
  replace H := H.reidx (L' := [⟨g2, 22, [.slice A fs.length cap]⟩, ⟨g7, 3, [I fi]⟩, ⟨g8, 39, [.slice (some ⟨g33, 0, none⟩) 2 2]⟩, ⟨g33, 3, [I fi, I (fi + 86400)]⟩]) [3, 2, 0, 1] (by decide) rfl
  refine WP.region ?_
  refine OPS.val rfl rfl rfl (Ev.makeFunc) ?_
  refine OPS.val rfl rfl rfl (Ev.asF rfl) ?_
  refine OPS.nil ?_
  refine WP.seq ?_
  refine WP.seq ?_
  refine WP.region ?_
  refine OPS.val rfl rfl rfl (Ev.load1 (agg_run rfl) rfl (by first | exact H.ldL 0 rfl _ rfl | exact H.ldL 1 rfl _ rfl | exact H.ldL 2 rfl _ rfl | exact H.ldL 3 rfl _ rfl | exact H.ldL 4 rfl _ rfl | exact H.ldL 5 rfl _ rfl | exact H.ldL 6 rfl _ rfl | exact H.ldL 7 rfl _ rfl | exact H.ld0 (by assumption) | assumption | exact H.ldS (by assumption) (by assumption))) ?_
  refine OPS.val rfl rfl rfl (Ev.len (el_run rfl) rfl) ?_
  refine OPS.val rfl rfl rfl (Ev.mvI rfl) ?_
  refine OPS.nil ?_
  refine WP.block ?_
  refine WP.loop [11, 37, 38, 39, 40, 41, 42, 43, 44, 45, 46, 47, 48, 49, 50, 51, 52, 53, 54, 55, 56, 57, 58, 59, 60, 61, 62, 63, 64, 65] (fun k e w' => ∃ (i : Nat) (S : Option Addr) (c : Nat) (Lc : List Blk) (cuts : List Int), i + k = fs.length ∧ e 37 = I i ∧ cuts = cutsL fi (fs.take i) ∧ OwnS S c cuts.length (cuts.map I) 3 1 Lc ∧ SH w0 [] w' (⟨g2, 22, [.slice A fs.length cap]⟩ :: cutLv g7 g8 fi S cuts.length c Lc)) (fs.length) (⟨0, some ⟨g33, 0, none⟩, 2, [⟨g33, 3, [I fi, I (fi + 86400)]⟩], cutsL fi [], by omega, rfl, rfl, ⟨rfl, .inr ⟨g33, [], rfl, rfl, by simp [cutsL, endsL], by unfold maxLen; omega, rfl⟩⟩, H⟩) ?_
  clear H
  rintro k u w ⟨i, S, c, Lc, cuts, hk, h37, hcu, hO, H⟩
  refine WP.know (t := 37) h37 ?_
  have hcl := cutsL_len fi (fs.take i)
  rw [← hcu] at hcl
  have htl := List.length_take_le' i fs
  refine WP.seq ?_
  refine WP.region ?_
  refine OPS.val rfl rfl rfl (Ev.lss rfl rfl) ?_
  refine OPS.nil ?_
  refine WP.seq ?_
  refine WP.cond rfl (fun hc10 => ?_) (fun hc10 => ?_)
  · have hlt : i < fs.length := by simpa using hc10
    obtain ⟨b, o, rfl, hcx⟩ := hz.rows i hlt
    have hc' := cellsAt_sh H hcx
    have hok := fErr_ok (kf fs[i] (List.getElem_mem hlt))
    have hct := cutsL_take (fi := fi) hlt
    rw [← hcu] at hct
    obtain ⟨x, hx⟩ : ∃ x, x = fs[i] := ⟨_, rfl⟩
    rw [← hx] at hc' hok hct
    obtain ⟨_, _, k3, k4⟩ := hok
    have hcl0 : cuts.length ≤ 130 := by omega
    refine WP.skip ?_
    refine WP.seq ?_
    refine WP.block ?_
    refine WP.seq ?_
    refine WP.region ?_
    refine OPS.val rfl rfl rfl ((by first | exact Ev.indexAddr1 (el_run rfl) (size_run rfl) rfl rfl rfl (by omega) | exact Ev.indexAddr (el_run rfl) (size_run rfl) rfl rfl rfl (by omega))) ?_
    refine OPS.val rfl rfl rfl ((by first | exact Ev.loadO 0 H rfl (agg_run rfl) (size_run rfl) (by first | assumption | rfl) rfl | exact Ev.loadO 1 H rfl (agg_run rfl) (size_run rfl) (by first | assumption | rfl) rfl | exact Ev.loadO 2 H rfl (agg_run rfl) (size_run rfl) (by first | assumption | rfl) rfl | exact Ev.loadO 3 H rfl (agg_run rfl) (size_run rfl) (by first | assumption | rfl) rfl | exact Ev.loadO 4 H rfl (agg_run rfl) (size_run rfl) (by first | assumption | rfl) rfl | exact Ev.loadO 5 H rfl (agg_run rfl) (size_run rfl) (by first | assumption | rfl) rfl | exact Ev.loadO 6 H rfl (agg_run rfl) (size_run rfl) (by first | assumption | rfl) rfl | (change Ev _ _ _ _ (Op.load 28 (Operand.tmp 39)) _; exact Ev.loadN (fenCells x) (agg_run rfl) (size_run rfl) rfl hc'))) ?_
    refine OPS.alloc rfl rfl rfl rfl (zero_run rfl) rfl H ?_
    clear H; intro g11 w H
    first | refine OPS.store 0 _ rfl rfl rfl (size_run rfl) rfl (cA rfl) rfl rfl H rfl (by simp) ?_ | refine OPS.store 1 _ rfl rfl rfl (size_run rfl) rfl (cA rfl) rfl rfl H rfl (by simp) ?_ | refine OPS.store 2 _ rfl rfl rfl (size_run rfl) rfl (cA rfl) rfl rfl H rfl (by simp) ?_ | refine OPS.store 3 _ rfl rfl rfl (size_run rfl) rfl (cA rfl) rfl rfl H rfl (by simp) ?_ | refine OPS.store 4 _ rfl rfl rfl (size_run rfl) rfl (cA rfl) rfl rfl H rfl (by simp) ?_ | refine OPS.store 5 _ rfl rfl rfl (size_run rfl) rfl (cA rfl) rfl rfl H rfl (by simp) ?_ | refine OPS.store 6 _ rfl rfl rfl (size_run rfl) rfl (cA rfl) rfl rfl H rfl (by simp) ?_ | refine OPS.store 7 _ rfl rfl rfl (size_run rfl) rfl (cA rfl) rfl rfl H rfl (by simp) ?_ | refine OPS.store 8 _ rfl rfl rfl (size_run rfl) rfl (cA rfl) rfl rfl H rfl (by simp) ?_
    clear H; intro w H; try simp only [List.set_cons_zero, List.set_cons_succ, putL, Nat.zero_add] at H
    refine OPS.nil ?_
    refine WP.seq ?_
    dsimp only [fenCells] at H
    refine WP.region ?_
    refine OPS.val rfl rfl rfl (Ev.mvF rfl) ?_
    refine OPS.val rfl rfl rfl (Ev.fieldAddr (fld_run rfl) rfl) ?_
    refine OPS.val rfl rfl rfl (Ev.fieldAddr (fld_run rfl) rfl) ?_
    refine OPS.val rfl rfl rfl (Ev.load1 (agg_run rfl) rfl (by first | exact H.ldL 0 rfl _ rfl | exact H.ldL 1 rfl _ rfl | exact H.ldL 2 rfl _ rfl | exact H.ldL 3 rfl _ rfl | exact H.ldL 4 rfl _ rfl | exact H.ldL 5 rfl _ rfl | exact H.ldL 6 rfl _ rfl | exact H.ldL 7 rfl _ rfl | exact H.ld0 (by assumption) | assumption | exact H.ldS (by assumption) (by assumption))) ?_
    refine OPS.call (d := some 45) rfl rfl rfl (EvC.clos rfl (fun_run (by first | rfl | assumption))) (fenAdd g7 g8 fi x.wf cuts S c Lc w hfb (by omega) hO (H.restart ((List.sublist_cons_self _ _).trans (List.sublist_cons_self _ _)))) ?_
    rintro _ w ⟨S, c, Lc, cuts1, rfl, hcu1, hO, Hc⟩
    refine ⟨_, rfl, ?_⟩
    replace H := SH.call (L1 := [_, _]) H Hc
    clear Hc
    have hl1 := addLen hcu1
    refine OPS.nil ?_
    refine WP.seq ?_
    refine WP.region ?_
    refine OPS.val rfl rfl rfl (Ev.mvF rfl) ?_
    refine OPS.val rfl rfl rfl (Ev.fieldAddr (fld_run rfl) rfl) ?_
    refine OPS.val rfl rfl rfl (Ev.fieldAddr (fld_run rfl) rfl) ?_
    refine OPS.val rfl rfl rfl (Ev.load1 (agg_run rfl) rfl (by first | exact H.ldL 0 rfl _ rfl | exact H.ldL 1 rfl _ rfl | exact H.ldL 2 rfl _ rfl | exact H.ldL 3 rfl _ rfl | exact H.ldL 4 rfl _ rfl | exact H.ldL 5 rfl _ rfl | exact H.ldL 6 rfl _ rfl | exact H.ldL 7 rfl _ rfl | exact H.ld0 (by assumption) | assumption | exact H.ldS (by assumption) (by assumption))) ?_
    refine OPS.call (d := some 50) rfl rfl rfl (EvC.clos rfl (fun_run (by first | rfl | assumption))) (fenAdd g7 g8 fi x.wt cuts1 S c Lc w hfb (by omega) hO (H.restart ((List.sublist_cons_self _ _).trans (List.sublist_cons_self _ _)))) ?_
    rintro _ w ⟨S, c, Lc, cuts2, rfl, hcu2, hO, Hc⟩
    refine ⟨_, rfl, ?_⟩
    replace H := SH.call (L1 := [_, _]) H Hc
    clear Hc
    have hl2 := addLen hcu2
    refine OPS.nil ?_
    refine WP.seq ?_
    refine WP.region ?_
    refine OPS.val rfl rfl rfl (Ev.mvF rfl) ?_
    refine OPS.val rfl rfl rfl (Ev.load1 (agg_run rfl) rfl (by first | exact H.ldL 0 rfl _ rfl | exact H.ldL 1 rfl _ rfl | exact H.ldL 2 rfl _ rfl | exact H.ldL 3 rfl _ rfl | exact H.ldL 4 rfl _ rfl | exact H.ldL 5 rfl _ rfl | exact H.ldL 6 rfl _ rfl | exact H.ldL 7 rfl _ rfl | exact H.ld0 (by assumption) | assumption | exact H.ldS (by assumption) (by assumption))) ?_
    refine OPS.val rfl rfl rfl (Ev.fieldAddr (fld_run rfl) rfl) ?_
    refine OPS.val rfl rfl rfl (Ev.fieldAddr (fld_run rfl) rfl) ?_
    refine OPS.val rfl rfl rfl (Ev.load1 (agg_run rfl) rfl (by first | exact H.ldL 0 rfl _ rfl | exact H.ldL 1 rfl _ rfl | exact H.ldL 2 rfl _ rfl | exact H.ldL 3 rfl _ rfl | exact H.ldL 4 rfl _ rfl | exact H.ldL 5 rfl _ rfl | exact H.ldL 6 rfl _ rfl | exact H.ldL 7 rfl _ rfl | exact H.ld0 (by assumption) | assumption | exact H.ldS (by assumption) (by assumption))) ?_
    refine OPS.val rfl rfl rfl (Ev.add rfl rfl (by unfold fits; omega)) ?_
    refine OPS.call (d := some 57) rfl rfl rfl (EvC.clos rfl (fun_run (by first | rfl | assumption))) (fenAdd g7 g8 fi (fi + x.hf) cuts2 S c Lc w hfb (by omega) hO (H.restart ((List.sublist_cons_self _ _).trans (List.sublist_cons_self _ _)))) ?_
    rintro _ w ⟨S, c, Lc, cuts3, rfl, hcu3, hO, Hc⟩
    refine ⟨_, rfl, ?_⟩
    replace H := SH.call (L1 := [_, _]) H Hc
    clear Hc
    have hl3 := addLen hcu3
    refine OPS.nil ?_
    refine WP.region ?_
    refine OPS.val rfl rfl rfl (Ev.mvF rfl) ?_
    refine OPS.val rfl rfl rfl (Ev.load1 (agg_run rfl) rfl (by first | exact H.ldL 0 rfl _ rfl | exact H.ldL 1 rfl _ rfl | exact H.ldL 2 rfl _ rfl | exact H.ldL 3 rfl _ rfl | exact H.ldL 4 rfl _ rfl | exact H.ldL 5 rfl _ rfl | exact H.ldL 6 rfl _ rfl | exact H.ldL 7 rfl _ rfl | exact H.ld0 (by assumption) | assumption | exact H.ldS (by assumption) (by assumption))) ?_
    refine OPS.val rfl rfl rfl (Ev.fieldAddr (fld_run rfl) rfl) ?_
    refine OPS.val rfl rfl rfl (Ev.fieldAddr (fld_run rfl) rfl) ?_
    refine OPS.val rfl rfl rfl (Ev.load1 (agg_run rfl) rfl (by first | exact H.ldL 0 rfl _ rfl | exact H.ldL 1 rfl _ rfl | exact H.ldL 2 rfl _ rfl | exact H.ldL 3 rfl _ rfl | exact H.ldL 4 rfl _ rfl | exact H.ldL 5 rfl _ rfl | exact H.ldL 6 rfl _ rfl | exact H.ldL 7 rfl _ rfl | exact H.ld0 (by assumption) | assumption | exact H.ldS (by assumption) (by assumption))) ?_
    refine OPS.val rfl rfl rfl (Ev.add rfl rfl (by unfold fits; omega)) ?_
    refine OPS.call (d := some 64) rfl rfl rfl (EvC.clos rfl (fun_run (by first | rfl | assumption))) (fenAdd g7 g8 fi (fi + x.ht) cuts3 S c Lc w hfb (by omega) hO (H.restart ((List.sublist_cons_self _ _).trans (List.sublist_cons_self _ _)))) ?_
    rintro _ w ⟨S, c, Lc, cuts4, rfl, hcu4, hO, Hc⟩
    refine ⟨_, rfl, ?_⟩
    replace H := SH.call (L1 := [_, _]) H Hc
    clear Hc
    refine OPS.nil ?_
    refine WP.region ?_
    refine OPS.val rfl rfl rfl (Ev.add rfl rfl (by unfold fits; omega)) ?_
    refine OPS.val rfl rfl rfl (Ev.mvI rfl) ?_
    refine OPS.nil ?_
    exact ⟨(by repeat (first | exact Agree.refl _ _ | exact Agree.mix _ _ _ | refine Agree.upd rfl ?_ | refine Agree.mix2 rfl ?_)), k - 1, by omega, i + 1, S, c, Lc, cuts4, by omega, rfl, by rw [hct, hcu4, hcu3, hcu2, hcu1], hO, H.drop (List.sublist_cons_self _ _)⟩
  have hi : i = fs.length := by simp at hc10; omega
  rw [hi, List.take_length] at hcu
  have hcl0 : cuts.length ≤ 130 := by omega
  have hc2 : 2 ≤ cuts.length := by rw [hcu]; simp [cutsL]
  obtain ⟨gS, sp, hSe, hLc, o1, o2, o3⟩ : ∃ gS sp, S = some ⟨gS, 0, none⟩ ∧ Lc = [⟨gS, 3, cuts.map I ++ sp⟩] ∧ cuts.length ≤ c ∧ c ≤ maxLen ∧ (cuts.map I ++ sp).length = c * 1 := by
    rcases hO.form with ⟨_, h, _⟩ | h
    · omega
    · exact h
  subst hSe hLc
  have hcok := cuts_ok (fs := fs) hfi hd0
  rw [← hcu] at hcok
  refine WP.exit ?_
  refine XB.hit ?_
  refine WP.seq ?_
  refine WP.region ?_
  refine OPS.val rfl rfl rfl (Ev.load1 (agg_run rfl) rfl (by first | exact H.ldL 0 rfl _ rfl | exact H.ldL 1 rfl _ rfl | exact H.ldL 2 rfl _ rfl | exact H.ldL 3 rfl _ rfl | exact H.ldL 4 rfl _ rfl | exact H.ldL 5 rfl _ rfl | exact H.ldL 6 rfl _ rfl | exact H.ldL 7 rfl _ rfl | exact H.ld0 (by assumption) | assumption | exact H.ldS (by assumption) (by assumption))) ?_
  refine OPS.call (d := some 67) rfl rfl rfl (EvC.func (fun_run rfl)) (sortOwn gS cuts sp c w (H.own ⟨gS, 3, cuts.map I ++ sp⟩ (by simp)) (by omega)) ?_
  rintro _ w ⟨rfl, Hc⟩
  refine ⟨_, rfl, ?_⟩
  replace H := SH.call (L1 := [_, _, _]) (Lv := [⟨gS, 3, cuts.map I ++ sp⟩]) H Hc
  clear Hc
  have hsl := srt_len cuts
  have hcp := fun w H0 => slCompact gS (srt cuts) sp c w H0 (by omega) (by omega)
  rw [hsl] at hcp
  obtain ⟨cs, hcs⟩ : ∃ cs, cs = cmpT (srt cuts) cuts.length := ⟨_, rfl⟩
  rw [← hcs] at hcp hcok
  have hcsl : cs.length ≤ 130 := by have := cmpT_len (srt cuts) cuts.length; rw [← hcs] at this; omega
  have hcsc : cs.length ≤ c := by have := cmpT_len (srt cuts) cuts.length; rw [← hcs] at this; omega
  refine OPS.nil ?_
  refine WP.seq ?_
  refine WP.region ?_
  refine OPS.val rfl rfl rfl (Ev.load1 (agg_run rfl) rfl (by first | exact H.ldL 0 rfl _ rfl | exact H.ldL 1 rfl _ rfl | exact H.ldL 2 rfl _ rfl | exact H.ldL 3 rfl _ rfl | exact H.ldL 4 rfl _ rfl | exact H.ldL 5 rfl _ rfl | exact H.ldL 6 rfl _ rfl | exact H.ldL 7 rfl _ rfl | exact H.ld0 (by assumption) | assumption | exact H.ldS (by assumption) (by assumption))) ?_
  refine OPS.call (d := some 69) rfl rfl rfl (EvC.func (fun_run rfl)) (hcp w (H.restart (((List.sublist_cons_self _ _).trans (List.sublist_cons_self _ _)).trans (List.sublist_cons_self _ _)))) ?_
  rintro _ w ⟨sp', rfl, Hc⟩
  refine ⟨_, rfl, ?_⟩
  replace H := SH.call (L1 := [_, _, _]) (Lv := [⟨gS, 3, (srt cuts).map I ++ sp⟩]) H Hc
  clear Hc hcp
  have hm2 := hcok.two
  first | refine OPS.store 0 _ rfl rfl rfl (size_run rfl) rfl (cS rfl) rfl rfl H rfl (by simp) ?_ | refine OPS.store 1 _ rfl rfl rfl (size_run rfl) rfl (cS rfl) rfl rfl H rfl (by simp) ?_ | refine OPS.store 2 _ rfl rfl rfl (size_run rfl) rfl (cS rfl) rfl rfl H rfl (by simp) ?_ | refine OPS.store 3 _ rfl rfl rfl (size_run rfl) rfl (cS rfl) rfl rfl H rfl (by simp) ?_ | refine OPS.store 4 _ rfl rfl rfl (size_run rfl) rfl (cS rfl) rfl rfl H rfl (by simp) ?_ | refine OPS.store 5 _ rfl rfl rfl (size_run rfl) rfl (cS rfl) rfl rfl H rfl (by simp) ?_ | refine OPS.store 6 _ rfl rfl rfl (size_run rfl) rfl (cS rfl) rfl rfl H rfl (by simp) ?_ | refine OPS.store 7 _ rfl rfl rfl (size_run rfl) rfl (cS rfl) rfl rfl H rfl (by simp) ?_ | refine OPS.store 8 _ rfl rfl rfl (size_run rfl) rfl (cS rfl) rfl rfl H rfl (by simp) ?_
  clear H; intro w H; try simp only [List.set_cons_zero, List.set_cons_succ, putL, Nat.zero_add] at H
  refine OPS.nil ?_
  replace H := H.reidx (L' := [⟨g8, 39, [.slice (some ⟨gS, 0, none⟩) cs.length c]⟩, ⟨g2, 22, [.slice A fs.length cap]⟩, ⟨gS, 3, cs.map I ++ sp'⟩]) [2, 0, 3] (by decide) rfl
  refine WP.seq ?_
  refine WP.region ?_
  refine OPS.val rfl rfl rfl (Ev.makeFunc) ?_
  refine OPS.val rfl rfl rfl (Ev.asF rfl) ?_
  refine OPS.nil ?_
  refine WP.seq ?_
  refine WP.region ?_
  refine OPS.val rfl rfl rfl (Ev.asS rfl) ?_
  refine OPS.nil ?_
  refine WP.seq ?_
  refine WP.seq ?_
  refine WP.region ?_
  refine OPS.val rfl rfl rfl (Ev.load1 (agg_run rfl) rfl (by first | exact H.ldL 0 rfl _ rfl | exact H.ldL 1 rfl _ rfl | exact H.ldL 2 rfl _ rfl | exact H.ldL 3 rfl _ rfl | exact H.ldL 4 rfl _ rfl | exact H.ldL 5 rfl _ rfl | exact H.ldL 6 rfl _ rfl | exact H.ldL 7 rfl _ rfl | exact H.ld0 (by assumption) | assumption | exact H.ldS (by assumption) (by assumption))) ?_
  refine OPS.val rfl rfl rfl (Ev.load1 (agg_run rfl) rfl (by first | exact H.ldL 0 rfl _ rfl | exact H.ldL 1 rfl _ rfl | exact H.ldL 2 rfl _ rfl | exact H.ldL 3 rfl _ rfl | exact H.ldL 4 rfl _ rfl | exact H.ldL 5 rfl _ rfl | exact H.ldL 6 rfl _ rfl | exact H.ldL 7 rfl _ rfl | exact H.ld0 (by assumption) | assumption | exact H.ldS (by assumption) (by assumption))) ?_
  refine OPS.val rfl rfl rfl (Ev.len (el_run rfl) rfl) ?_
  refine OPS.val rfl rfl rfl (Ev.sub rfl rfl (by unfold fits; omega)) ?_
  rw [show ((cs.length : Nat) : Int) - 1 = ((cs.length - 1 : Nat) : Int) by omega]
  refine OPS.val rfl rfl rfl (Ev.sliceTo (j := cs.length - 1) (el_run rfl) ⟨1, size_run rfl⟩ rfl rfl rfl (by omega)) ?_
  refine OPS.val rfl rfl rfl (Ev.len (el_run rfl) rfl) ?_
  refine OPS.val rfl rfl rfl (Ev.mvI rfl) ?_
  refine OPS.nil ?_
  refine WP.block ?_
  refine WP.loop [13, 14, 15, 16, 77, 78, 79, 80, 81, 82, 83, 84, 85, 86, 87, 88, 89, 90, 91, 92, 93, 94, 95, 96, 97, 98, 99, 100, 101, 102, 103, 104, 105, 106, 107, 108, 109, 110, 111, 112, 113, 114, 115, 116, 117, 118, 119, 120] (fun k e w' => ∃ (i : Nat) (S : Option Addr) (c' : Nat) (Lw : List Blk) (W : List Wi), i + k = cs.length - 1 ∧ e 77 = I i ∧ e 13 = .slice S W.length c' ∧ W.length ≤ i ∧ ((i = 0 ∧ W = []) ∨ (0 < i ∧ Parts (Chg fs) (cs.getD i 0) fi W)) ∧ OwnS S c' W.length (W.flatMap wiCells) 26 2 Lw ∧ SH w0 [] w' (⟨g8, 39, [.slice (some ⟨gS, 0, none⟩) cs.length c]⟩ :: ⟨g2, 22, [.slice A fs.length cap]⟩ :: ⟨gS, 3, cs.map I ++ sp'⟩ :: Lw)) ((cs.length - 1)) (⟨0, none, 0, [], [], by omega, rfl, rfl, by simp, .inl ⟨rfl, rfl⟩, OwnS.nil, H⟩) ?_
  clear H hO
  rintro k u w ⟨i, S, c', Lw, W, hk, h77, h13, hWi, hW, hO, H⟩
  refine WP.know (t := 77) h77 (WP.know (t := 13) h13 ?_)
  refine WP.seq ?_
  refine WP.region ?_
  refine OPS.val rfl rfl rfl (Ev.lss rfl rfl) ?_
  refine OPS.nil ?_
  refine WP.seq ?_
  refine WP.cond rfl (fun hc22 => ?_) (fun hc22 => ?_)
  · have hlt : i < cs.length - 1 := by simp at hc22; omega
    have hlt1 : i + 1 < cs.length := by omega
    have hcc : ∀ (w : World) (Lw : List Blk), SH w0 [] w (⟨g8, 39, [.slice (some ⟨gS, 0, none⟩) cs.length c]⟩ :: ⟨g2, 22, [.slice A fs.length cap]⟩ :: ⟨gS, 3, cs.map I ++ sp'⟩ :: Lw) → ∀ j (h : j < cs.length), w.cell? ⟨gS, 0 + j, none⟩ = some (I (cs.getD j 0)) := fun w Lw H j hj => by
      obtain ⟨b, o, e, hc⟩ := OnesAt.own (enc := I) (l := cs) (post := sp') H 2 rfl rfl j hj
      cases e; rw [getI hj]; exact hc
    have hx := hcc w Lw H i (by omega)
    have hclt := hcok.lt i hlt1
    have hcno := hcok.noc i hlt1
    have hlo := hcok.low i (by omega)
    have hlo1 := hcok.low (i + 1) hlt1
    obtain ⟨ct, hct⟩ : ∃ ct, ct = cs.getD i 0 := ⟨_, rfl⟩
    obtain ⟨nx, hnx⟩ : ∃ nx, nx = cs.getD (i + 1) 0 := ⟨_, rfl⟩
    rw [← hct] at hx hclt hcno hW hlo
    rw [← hnx] at hclt hcno hlo1
    obtain ⟨gw, lf, hgw⟩ : ∃ (gw : Nat) (lf : Int), 0 < W.length → ∃ spw, S = some ⟨gw, 0, none⟩ ∧ Lw = [⟨gw, 26, W.flatMap wiCells ++ spw⟩] ∧ W.length ≤ c' ∧ c' ≤ maxLen ∧ (W.flatMap wiCells ++ spw).length = c' * 2 ∧ (∀ h : 0 < W.length, (W[W.length - 1]'(by omega)).1 = lf) := by
      by_cases h0 : 0 < W.length
      · rcases hO.form with ⟨_, h, _⟩ | ⟨g, sp, q1, q2, q3, q4, q5⟩
        · omega
        · exact ⟨g, (W[W.length - 1]'(by omega)).1, fun _ => ⟨sp, q1, q2, q3, q4, q5, fun _ => rfl⟩⟩
      · exact ⟨0, 0, fun h => absurd h h0⟩
    have hSw : 0 < W.length → S = some ⟨gw, 0, none⟩ := fun h => by obtain ⟨_, q1, _⟩ := hgw h; exact q1
    have hlf : ∀ (w : World), SH w0 [] w (⟨g8, 39, [.slice (some ⟨gS, 0, none⟩) cs.length c]⟩ :: ⟨g2, 22, [.slice A fs.length cap]⟩ :: ⟨gS, 3, cs.map I ++ sp'⟩ :: Lw) → 0 < W.length → w.cell? ⟨gw, 0 + (W.length - 1) * 2 + 0, none⟩ = some (I lf) := fun w H h => by
      obtain ⟨spw, _, q2, _, _, _, q6⟩ := hgw h
      rw [q2] at H
      have := wiCell H 3 rfl (W.length - 1) (by omega)
      rw [q6 h] at this; exact this
    have hal := idxF_len (fun f => activeB f lf) fs fs.length
    have hal2 := idxF_len (fun f => activeB f ct) fs fs.length
    refine WP.skip ?_
    refine WP.seq ?_
    refine WP.block ?_
    refine WP.seq ?_
    refine WP.region ?_
    refine OPS.val rfl rfl rfl (Ev.mvI rfl) ?_
    refine OPS.val rfl rfl rfl ((by first | exact Ev.indexAddr1 (el_run rfl) (size_run rfl) rfl rfl rfl (by omega) | exact Ev.indexAddr (el_run rfl) (size_run rfl) rfl rfl rfl (by omega))) ?_
    refine OPS.val rfl rfl rfl (Ev.load1 (agg_run rfl) rfl (by first | exact H.ldL 0 rfl _ rfl | exact H.ldL 1 rfl _ rfl | exact H.ldL 2 rfl _ rfl | exact H.ldL 3 rfl _ rfl | exact H.ldL 4 rfl _ rfl | exact H.ldL 5 rfl _ rfl | exact H.ldL 6 rfl _ rfl | exact H.ldL 7 rfl _ rfl | exact H.ld0 (by assumption) | assumption | exact H.ldS (by assumption) (by assumption))) ?_
    refine OPS.val rfl rfl rfl (Ev.asI rfl) ?_
    refine OPS.val rfl rfl rfl (Ev.asI rfl) ?_
    refine OPS.nil ?_
    refine WP.seq ?_
    refine WP.seq ?_
    refine WP.region ?_
    refine OPS.val rfl rfl rfl (Ev.mvS rfl) ?_
    refine OPS.val rfl rfl rfl (Ev.len (el_run rfl) rfl) ?_
    refine OPS.val rfl rfl rfl (Ev.asI rfl) ?_
    refine OPS.nil ?_
    refine WP.seq ?_
    refine WP.region ?_
    refine OPS.val rfl rfl rfl (Ev.mvI rfl) ?_
    refine OPS.val rfl rfl rfl (Ev.gtr rfl rfl) ?_
    refine OPS.val rfl rfl rfl (Ev.mvB rfl) ?_
    refine OPS.gval rfl rfl rfl rfl rfl (fun hg => Ev.mvF (by first | rfl | exact gvE hg rfl)) ?_
    refine OPS.gval rfl rfl rfl rfl rfl (fun hg => Ev.mvS (by first | rfl | exact gvE hg rfl)) ?_
    refine OPS.gval rfl rfl rfl rfl rfl (fun hg => Ev.mvI (by first | rfl | exact gvE hg rfl)) ?_
    refine OPS.gval rfl rfl rfl rfl rfl (fun hg => Ev.sub (by first | rfl | exact gvE hg rfl) (by first | rfl | exact gvE hg rfl) (by unfold fits; omega)) ?_
    refine OPS.gval rfl rfl rfl rfl rfl (fun hg => Ev.indexAddr (b := gw) (o := 0) (j := W.length - 1) (el_run rfl) (size_run rfl) ((gvE hg rfl : _ = Value.slice S W.length c').trans (by rw [hSw (by simpa using hg)])) (gvE hg rfl) (by simp at hg; omega) (by simp at hg; omega)) ?_
    refine OPS.gval rfl rfl rfl rfl rfl (fun hg => Ev.fieldAddr (fld_run rfl) (by first | rfl | exact gvE hg rfl)) ?_
    refine OPS.gval rfl rfl rfl rfl rfl (fun hg => Ev.load1 (agg_run rfl) (gvE hg rfl) (hlf w H (by simpa using hg))) ?_
    refine OPS.gcallX (α := Option Addr × Nat) (f := 42) (args := [I lf, .pointer (some ⟨g2, 0, none⟩)]) (fun x => .slice x.1 (actL fs lf).length x.2) (fun x w' => IntsAt w' x.1 (actL fs lf)) (fun hg => fenActL A fs cap g2 lf w (hz.sh H) (by omega) (H.ldL 1 rfl 0 rfl)) rfl rfl rfl rfl rfl (fun hg => EvC.conv (EvC.clos0 (caps := [.pointer (some ⟨g2, 0, none⟩)]) (gvE hg rfl) (fun_run rfl)) (congrArg (· ++ _) (l1 (gvE hg rfl)))) ?_
    intro x1 w hI1 Hc
    replace H := H.toBelow Hc
    clear Hc
    refine OPS.gval rfl rfl rfl rfl rfl (fun hg => Ev.mvF (by first | rfl | exact gvE hg rfl)) ?_
    refine OPS.gval rfl rfl rfl rfl rfl (fun hg => Ev.mvI (by first | rfl | exact gvE hg rfl)) ?_
    refine OPS.gcallX (α := Option Addr × Nat) (f := 42) (args := [I ct, .pointer (some ⟨g2, 0, none⟩)]) (fun x => .slice x.1 (actL fs ct).length x.2) (fun x w' => IntsAt w' x.1 (actL fs ct)) (fun hg => fenActL A fs cap g2 ct w (hz.sh H) (by omega) (H.ldL 1 rfl 0 rfl)) rfl rfl rfl rfl rfl (fun hg => EvC.conv (EvC.clos0 (caps := [.pointer (some ⟨g2, 0, none⟩)]) (gvE hg rfl) (fun_run rfl)) (congrArg (· ++ _) (l1 (gvE hg rfl)))) ?_
    intro x2 w hI2 Hc
    replace H := H.toBelow Hc
    replace hI1 := fun hg => (hI1 hg).below Hc
    clear Hc
    refine OPS.gcallX (α := Unit) (f := 43) (args := [.slice x1.1 (actL fs lf).length x1.2, .slice x2.1 (actL fs ct).length x2.2]) (fun _ => .bool (decide (actL fs lf = actL fs ct))) (fun _ _ => True) (fun hg => (slEqual x1.1 x2.1 (actL fs lf) (actL fs ct) x1.2 x2.2 w (hI1 hg) (hI2 hg) (by unfold actL; omega) (by unfold actL; omega)).mono fun e w' ⟨he, hb⟩ => ⟨(), he, trivial, hb⟩) rfl rfl rfl rfl rfl (fun hg => EvC.conv (EvC.func (fun_run rfl)) (l2 (gvE hg rfl) (gvE hg rfl))) ?_
    intro _ w _ Hc
    replace H := H.toBelow Hc
    clear Hc hI1 hI2
    refine OPS.val rfl rfl rfl ((by first | exact Ev.pickOr rfl rfl rfl | exact Ev.pickAnd rfl rfl rfl)) ?_
    refine OPS.nil ?_
    refine WP.cond rfl (fun hc25 => ?_) (fun hc25 => ?_)
    · have hcd : 0 < W.length ∧ actL fs lf = actL fs ct := by
        rw [Bool.and_eq_true] at hc25
        exact ⟨by simpa using hc25.1, by simpa using hc25.2⟩
      obtain ⟨spw, q1, q2, q3, q4, q5, q6⟩ := hgw hcd.1
      subst q1 q2
      have hp : Parts (Chg fs) ct fi W := by
        rcases hW with ⟨_, h⟩ | ⟨_, h⟩
        · rw [h] at hcd; simp at hcd
        · exact h
      obtain ⟨hl0, hla, hlb, hlc⟩ := hp.lastAt
      rw [q6 hcd.1] at hla hlb hlc
      have hnc : ¬ Chg fs ct := (cut_iff hlb hlc).1 hcd.2
      have hpe := hp.ext hnc hclt hcno
      rw [setTo_set W nx hcd.1] at hpe
      have hx1 := hcc w _ H (i + 1) hlt1
      rw [← hnx] at hx1
      refine WP.seq ?_
      refine WP.region ?_
      refine OPS.val rfl rfl rfl (Ev.mvS rfl) ?_
      refine OPS.val rfl rfl rfl (Ev.mvI rfl) ?_
      refine OPS.val rfl rfl rfl (Ev.sub rfl rfl (by unfold fits; omega)) ?_
      refine OPS.val rfl rfl rfl (Ev.load1 (agg_run rfl) rfl (by first | exact H.ldL 0 rfl _ rfl | exact H.ldL 1 rfl _ rfl | exact H.ldL 2 rfl _ rfl | exact H.ldL 3 rfl _ rfl | exact H.ldL 4 rfl _ rfl | exact H.ldL 5 rfl _ rfl | exact H.ldL 6 rfl _ rfl | exact H.ldL 7 rfl _ rfl | exact H.ld0 (by assumption) | assumption | exact H.ldS (by assumption) (by assumption))) ?_
      refine OPS.val rfl rfl rfl (Ev.mvI rfl) ?_
      refine OPS.val rfl rfl rfl (Ev.add rfl rfl (by unfold fits; omega)) ?_
      refine OPS.val rfl rfl rfl ((by first | exact Ev.indexAddr1 (el_run rfl) (size_run rfl) rfl rfl rfl (by omega) | exact Ev.indexAddr (el_run rfl) (size_run rfl) rfl rfl rfl (by omega))) ?_
      refine OPS.val rfl rfl rfl (Ev.load1 (agg_run rfl) rfl (by first | exact H.ldL 0 rfl _ rfl | exact H.ldL 1 rfl _ rfl | exact H.ldL 2 rfl _ rfl | exact H.ldL 3 rfl _ rfl | exact H.ldL 4 rfl _ rfl | exact H.ldL 5 rfl _ rfl | exact H.ldL 6 rfl _ rfl | exact H.ldL 7 rfl _ rfl | exact H.ld0 (by assumption) | assumption | exact H.ldS (by assumption) (by assumption))) ?_
      rw [show ((W.length : Nat) : Int) - 1 = ((W.length - 1 : Nat) : Int) by omega]
      refine OPS.val rfl rfl rfl ((by first | exact Ev.indexAddr1 (el_run rfl) (size_run rfl) rfl rfl rfl (by omega) | exact Ev.indexAddr (el_run rfl) (size_run rfl) rfl rfl rfl (by omega))) ?_
      refine OPS.val rfl rfl rfl (Ev.fieldAddr (fld_run rfl) rfl) ?_
      refine OPS.store (b := ⟨gw, 26, W.flatMap wiCells ++ spw⟩) 3 (0 + (W.length - 1) * 2 + 1) rfl rfl rfl (size_run rfl) rfl (cI (n := nx) rfl) rfl rfl H rfl (by rw [List.length_append, rows_length wiCells_len]; omega) ?_
      clear H; intro w H
      simp only [List.set_cons_zero, List.set_cons_succ] at H
      rw [putWi W (W.length - 1) (by omega) nx spw] at H
      refine OPS.nil ?_
      refine WP.exit ?_
      refine XB.hit ?_
      refine WP.region ?_
      refine OPS.val rfl rfl rfl (Ev.add rfl rfl (by unfold fits; omega)) ?_
      refine OPS.val rfl rfl rfl (Ev.mvI rfl) ?_
      refine OPS.nil ?_
      first
        | exact ⟨(by repeat (first | exact Agree.refl _ _ | exact Agree.mix _ _ _ | refine Agree.upd rfl ?_ | refine Agree.mix2 rfl ?_)), k - 1, by omega, i + 1, S, c', Lw, W ++ [(ct, nx)], by omega, rfl, (by rw [List.length_append]; rfl), (by rw [List.length_append]; simp; omega), .inr ⟨by omega, by rw [← hnx]; exact hp2⟩, (by rw [List.length_append, List.flatMap_append, List.flatMap_cons, List.flatMap_nil, List.append_nil]; exact hO), H.drop (List.sublist_cons_self _ _)⟩
        | exact ⟨(by repeat (first | exact Agree.refl _ _ | exact Agree.mix _ _ _ | refine Agree.upd rfl ?_ | refine Agree.mix2 rfl ?_)), k - 1, by omega, i + 1, some ⟨gw, 0, none⟩, c', [⟨gw, 26, (W.set (W.length - 1) ((W[W.length - 1]'(by omega)).1, nx)).flatMap wiCells ++ spw⟩], W.set (W.length - 1) ((W[W.length - 1]'(by omega)).1, nx), by omega, rfl, (by rw [List.length_set]; rfl), (by rw [List.length_set]; omega), .inr ⟨by omega, by rw [← hnx]; exact hpe⟩, ⟨by rw [rows_length wiCells_len], .inr ⟨gw, spw, rfl, rfl, by rw [List.length_set]; exact q3, q4, by rw [List.length_append, rows_length wiCells_len, List.length_set]; rw [List.length_append, rows_length wiCells_len] at q5; exact q5⟩⟩, H⟩
    have hcd : ¬ (0 < W.length ∧ actL fs lf = actL fs ct) := fun hh => by
      rw [decide_eq_true (show (0 : Int) < (W.length : Int) from Int.ofNat_lt.2 hh.1), decide_eq_true hh.2] at hc25
      cases hc25
    have hp2 : Parts (Chg fs) nx fi (W ++ [(ct, nx)]) := by
      rcases hW with ⟨h0, rfl⟩ | ⟨h0, hp⟩
      · subst h0
        have : ct = fi := by rw [hct]; exact hcok.first
        subst this
        exact Parts.last hclt hcno
      · obtain ⟨hl0, hla, hlb, hlc⟩ := hp.lastAt
        obtain ⟨spw, q1, q2, q3, q4, q5, q6⟩ := hgw hl0
        rw [q6 hl0] at hla hlb hlc
        refine hp.snoc ?_ hclt hcno
        refine Classical.byContradiction fun hnc => hcd ⟨hl0, (cut_iff hlb hlc).2 hnc⟩
    have hx1 := hcc w _ H (i + 1) hlt1
    rw [← hnx] at hx1
    refine WP.skip ?_
    refine WP.region ?_
    refine OPS.val rfl rfl rfl (Ev.mvS rfl) ?_
    refine OPS.val rfl rfl rfl (Ev.mvI rfl) ?_
    refine OPS.val rfl rfl rfl (Ev.load1 (agg_run rfl) rfl (by first | exact H.ldL 0 rfl _ rfl | exact H.ldL 1 rfl _ rfl | exact H.ldL 2 rfl _ rfl | exact H.ldL 3 rfl _ rfl | exact H.ldL 4 rfl _ rfl | exact H.ldL 5 rfl _ rfl | exact H.ldL 6 rfl _ rfl | exact H.ldL 7 rfl _ rfl | exact H.ld0 (by assumption) | assumption | exact H.ldS (by assumption) (by assumption))) ?_
    refine OPS.val rfl rfl rfl (Ev.mvI rfl) ?_
    refine OPS.val rfl rfl rfl (Ev.add rfl rfl (by unfold fits; omega)) ?_
    refine OPS.val rfl rfl rfl ((by first | exact Ev.indexAddr1 (el_run rfl) (size_run rfl) rfl rfl rfl (by omega) | exact Ev.indexAddr (el_run rfl) (size_run rfl) rfl rfl rfl (by omega))) ?_
    refine OPS.val rfl rfl rfl (Ev.load1 (agg_run rfl) rfl (by first | exact H.ldL 0 rfl _ rfl | exact H.ldL 1 rfl _ rfl | exact H.ldL 2 rfl _ rfl | exact H.ldL 3 rfl _ rfl | exact H.ldL 4 rfl _ rfl | exact H.ldL 5 rfl _ rfl | exact H.ldL 6 rfl _ rfl | exact H.ldL 7 rfl _ rfl | exact H.ld0 (by assumption) | assumption | exact H.ldS (by assumption) (by assumption))) ?_
    refine OPS.val rfl rfl rfl (Ev.build (bld_26_0_1 rfl rfl)) ?_
    refine OPS.buildSlice rfl rfl rfl rfl (bsl_45_1_0 rfl) H ?_
    clear H; intro g118 w H
    refine OPS.append (m := 1) (news := [I ct, I nx]) (R := [⟨g118, 26, [I ct, I nx]⟩, ⟨g8, 39, [.slice (some ⟨gS, 0, none⟩) cs.length c]⟩, ⟨g2, 22, [.slice A fs.length cap]⟩, ⟨gS, 3, cs.map I ++ sp'⟩]) rfl rfl rfl rfl rfl (sl_run rfl) rfl rfl hO rfl (src_own H 0 rfl) rfl (by omega) (by unfold maxLen; omega) H (List.Perm.refl _) ?_
    clear H hO; intro S c' Lw w hO H
    refine OPS.val rfl rfl rfl (Ev.asS rfl) ?_
    refine OPS.nil ?_
    refine WP.region ?_
    refine OPS.val rfl rfl rfl (Ev.add rfl rfl (by unfold fits; omega)) ?_
    refine OPS.val rfl rfl rfl (Ev.mvI rfl) ?_
    refine OPS.nil ?_
    first
      | exact ⟨(by repeat (first | exact Agree.refl _ _ | exact Agree.mix _ _ _ | refine Agree.upd rfl ?_ | refine Agree.mix2 rfl ?_)), k - 1, by omega, i + 1, S, c', Lw, W ++ [(ct, nx)], by omega, rfl, (by rw [List.length_append]; rfl), (by rw [List.length_append]; simp; omega), .inr ⟨by omega, by rw [← hnx]; exact hp2⟩, (by rw [List.length_append, List.flatMap_append, List.flatMap_cons, List.flatMap_nil, List.append_nil]; exact hO), H.drop (List.sublist_cons_self _ _)⟩
      | exact ⟨(by repeat (first | exact Agree.refl _ _ | exact Agree.mix _ _ _ | refine Agree.upd rfl ?_ | refine Agree.mix2 rfl ?_)), k - 1, by omega, i + 1, some ⟨gw, 0, none⟩, c', [⟨gw, 26, (W.set (W.length - 1) ((W[W.length - 1]'(by omega)).1, nx)).flatMap wiCells ++ spw⟩], W.set (W.length - 1) ((W[W.length - 1]'(by omega)).1, nx), by omega, rfl, (by rw [List.length_set]; rfl), (by rw [List.length_set]; omega), .inr ⟨by omega, by rw [← hnx]; exact hpe⟩, ⟨by rw [rows_length wiCells_len], .inr ⟨gw, spw, rfl, rfl, by rw [List.length_set]; exact q3, q4, by rw [List.length_append, rows_length wiCells_len, List.length_set]; rw [List.length_append, rows_length wiCells_len] at q5; exact q5⟩⟩, H⟩
  refine WP.exit ?_
  refine XB.hit ?_
  refine WP.seq ?_
  refine WP.region ?_
  refine OPS.val rfl rfl rfl (Ev.mvS rfl) ?_
  refine OPS.val rfl rfl rfl (Ev.asS rfl) ?_
  refine OPS.val rfl rfl rfl (Ev.asI rfl) ?_
  refine OPS.nil ?_
  refine WP.ret ⟨_, rfl, ?_⟩
  have hi : i = cs.length - 1 := by simp at hc22; omega
  have hp : Parts (Chg fs) (fi + 86400) fi W := by
    rcases hW with ⟨h, _⟩ | ⟨_, h⟩
    · omega
    · rw [hi, hcok.last] at h; exact h
  rw [he]
  exact ⟨S, c', Lw, W, rfl, ⟨fun _ => by rw [← hfi]; exact hp, fun h => absurd he h⟩, fun w0 X w H => (hO.rows (R := []) wiCells_len (by decide) H).1, H.drop (((List.sublist_cons_self _ _).trans (List.sublist_cons_self _ _)).trans (List.sublist_cons_self _ _))⟩
end Go.Proofs.Ytkfklebaeifdnaa
