/-
  Walks: the fences that a question picks.
-/
import Derived.Test.YtkfklebaeifdnaaF9
set_option linter.all false
namespace Go.Proofs.Ytkfklebaeifdnaa
open Go Go.W Go.RowKit

def farB (n : Int) : Bool := decide (n < -16384) || decide (16384 < n)
def askErr (fs : List Fen) (n : Int) (p : Pt) (r t : Int) : Int := if chkErr fs ≠ 0 then chkErr fs else if kindB n = false then 14 else if (((((decide (t < 0) || decide (4294943999 < t)) || farB p.x) || farB p.y) || decide (r < 0)) || decide (16384 < r)) = true then 1 else 0
def idxF (q : Fen → Bool) (fs : List Fen) (j : Nat) : List Int := List.map (fun i : Nat => (i : Int)) ((List.range j).filter fun i => q (fs.getD i default))
theorem idxF_succ (q : Fen → Bool) (fs : List Fen) (j : Nat) : idxF q fs (j + 1) = idxF q fs j ++ if q (fs.getD j default) = true then [(j : Int)] else [] := by
  unfold idxF
  rw [List.range_succ, List.filter_append, List.map_append]
  by_cases h : q (fs.getD j default) = true
  · rw [if_pos h]; simp only [List.filter_cons, h, if_true, List.filter_nil, List.map_cons, List.map_nil]
  · rw [if_neg h]; simp only [List.filter_cons, h, if_false, List.filter_nil, List.map_nil]; rfl
theorem idxF_len (q : Fen → Bool) (fs : List Fen) (j : Nat) : (idxF q fs j).length ≤ j := by unfold idxF; rw [List.length_map]; exact Nat.le_trans (List.length_filter_le _ _) (by simp)
theorem mem_idxF {q : Fen → Bool} {fs : List Fen} {j i : Nat} : (i : Int) ∈ idxF q fs j ↔ i < j ∧ q (fs.getD i default) = true := by
  unfold idxF
  simp only [List.mem_map, List.mem_filter, List.mem_range]
  constructor
  · rintro ⟨k, hk, he⟩
    obtain rfl : k = i := by omega
    exact hk
  · exact fun h => ⟨i, h, rfl⟩
theorem getDf {l : List Fen} {i : Nat} (h : i < l.length) : l.getD i default = l[i] := by rw [List.getD_eq_getElem?_getD, List.getElem?_eq_getElem h]; rfl
def selB (n t : Int) (tst : Fen → Bool) (f : Fen) : Bool := (decide (f.kind = n) && activeB f t) && tst f
def selL (fs : List Fen) (n : Int) (p : Pt) (r t : Int) (tst : Fen → Bool) : List Int := if askErr fs n p r t = 0 then idxF (selB n t tst) fs fs.length else []
theorem fsErr_ok {fs : List Fen} (h : fsErr fs = 0) : ∀ f ∈ fs, fErr f = 0 := by
  induction fs with
  | nil => intro f hf; cases hf
  | cons x l ih =>
    rw [fsErr] at h
    split at h
    · rename_i h1; exact absurd h h1
    · rename_i h1
      intro f hf
      rcases List.mem_cons.1 hf with rfl | hf
      · exact Classical.not_not.1 h1
      · exact ih h f hf
theorem chk_ok {fs : List Fen} (h : chkErr fs = 0) : fs.length ≤ 32 ∧ ∀ f ∈ fs, fErr f = 0 := by
  unfold chkErr at h
  split at h
  · cases h
  · exact ⟨by omega, fsErr_ok h⟩
theorem fErr_ok {f : Fen} (h : fErr f = 0) : kindB f.kind = true ∧ polyErr f.P.l = 0 ∧ (0 ≤ f.wf ∧ f.wf ≤ f.wt ∧ f.wt ≤ 4294944000) ∧ 0 ≤ f.hf ∧ f.hf ≤ f.ht ∧ f.ht ≤ 86400 := by
  unfold fErr at h
  split at h
  · cases h
  rename_i h1
  split at h
  · rename_i h2; exact absurd h h2
  rename_i h2
  split at h
  · cases h
  rename_i h3
  refine ⟨by simpa using h1, Classical.not_not.1 h2, ?_⟩
  unfold winB at h3
  simp at h3
  omega
theorem ask_ok {fs : List Fen} {n : Int} {p : Pt} {r t : Int} (h : askErr fs n p r t = 0) : chkErr fs = 0 ∧ kindB n = true ∧ PtR p ∧ (0 ≤ t ∧ t ≤ 4294943999) ∧ 0 ≤ r ∧ r ≤ 16384 := by
  unfold askErr at h
  split at h
  · rename_i h1; exact absurd h h1
  rename_i h1
  split at h
  · cases h
  rename_i h2
  split at h
  · cases h
  rename_i h3
  unfold farB at h3
  simp at h3
  exact ⟨Classical.not_not.1 h1, by simpa using h2, ⟨by omega, by omega, by omega, by omega⟩, by omega, by omega, by omega⟩
theorem fenFar (n : Int) (w0 : World) : Calls Try.prog 69 #[I n] w0 fun e w' => e = .returned (.bool (farB n)) ∧ Below w0.heap.size w0 w' := by
  have H := SH.refl w0
  refine Calls.ofWP Try.func69 rfl Try.results69 Try.ntmps69 rfl ?_
  refine WP.seq ?_
  refine WP.region ?_
  refine OPS.val rfl rfl rfl (Ev.asB rfl) ?_
  refine OPS.nil ?_
  refine WP.seq ?_
  refine WP.region ?_
  refine OPS.val rfl rfl rfl (Ev.mvI rfl) ?_
  refine OPS.val rfl rfl rfl (Ev.lss rfl rfl) ?_
  refine OPS.val rfl rfl rfl (Ev.mvB rfl) ?_
  refine OPS.gval rfl rfl rfl rfl rfl (fun hg => Ev.mvI (by first | rfl | exact gvE hg rfl)) ?_
  refine OPS.gval rfl rfl rfl rfl rfl (fun hg => Ev.gtr (by first | rfl | exact gvE hg rfl) (by first | rfl | exact gvE hg rfl)) ?_
  refine OPS.val rfl rfl rfl ((by first | exact Ev.pickOr rfl rfl rfl | exact Ev.pickAnd rfl rfl rfl)) ?_
  refine OPS.val rfl rfl rfl (Ev.asB rfl) ?_
  refine OPS.nil ?_
  refine WP.ret ⟨_, rfl, ?_⟩
  exact ⟨rfl, H.below⟩
theorem farFun : funT 69 = true := rfl
set_option maxHeartbeats 2000000 in
theorem fenChosen (A : Option Addr) (fs : List Fen) (cap : Nat) (n : Int) (p : Pt) (r t : Int) (F : Nat) (caps : List Value) (tst : Fen → Bool) (w0 : World) (hfun : funT F = true) (hz : FensAt w0 A fs)
    (his : askErr fs n p r t = 0 → ∀ f ∈ fs, ∀ w, Below w0.heap.size w0 w → Calls Try.prog F ([Value.slice f.P.A f.P.l.length f.P.cap] ++ caps).toArray w fun e w' => e = .returned (.bool (tst f)) ∧ Below w.heap.size w w') :
    Calls Try.prog 56 #[.slice A fs.length cap, I n, .agg #[I p.x, I p.y], I r, I t, .func (.func F) #[] caps.toArray] w0 fun e w' => ∃ (S : Option Addr) (c : Nat) (L : List Blk), e = .returned (.tuple #[.slice S (selL fs n p r t tst).length c, I (askErr fs n p r t)]) ∧ Reads L (fun w => IntsAt w S (selL fs n p r t tst)) ∧ SH w0 [] w' L := by
  have H := SH.refl w0
  refine Calls.ofWP Try.func56 rfl Try.results56 Try.ntmps56 rfl ?_
  refine WP.seq ?_
  refine WP.region ?_
  refine OPS.box rfl rfl rfl rfl (cA rfl) H ?_
  clear H; intro g8 w H
  refine OPS.val rfl rfl rfl (Ev.asS rfl) ?_
  refine OPS.val rfl rfl rfl (Ev.asI rfl) ?_
  refine OPS.nil ?_
  refine WP.seq ?_
  refine WP.seq ?_
  refine WP.region ?_
  refine OPS.val rfl rfl rfl (Ev.mvS rfl) ?_
  refine OPS.call (d := some 20) rfl rfl rfl (EvC.func (fun_run rfl)) (fenCheck A fs cap w (hz.sh H)) ?_
  rintro _ w ⟨rfl, hb⟩
  refine ⟨_, rfl, ?_⟩
  replace H := H.toBelow hb; clear hb
  refine OPS.val rfl rfl rfl (Ev.asI rfl) ?_
  refine OPS.nil ?_
  refine WP.seq ?_
  refine WP.region ?_
  refine OPS.val rfl rfl rfl (Ev.mvI rfl) ?_
  refine OPS.val rfl rfl rfl (Ev.neq rfl rfl) ?_
  refine OPS.nil ?_
  refine WP.cond rfl (fun hc2 => ?_) (fun hc2 => ?_)
  · refine WP.seq ?_
    refine WP.region ?_
    refine OPS.val rfl rfl rfl (Ev.mvI rfl) ?_
    refine OPS.val rfl rfl rfl (Ev.asS rfl) ?_
    refine OPS.val rfl rfl rfl (Ev.asI rfl) ?_
    refine OPS.nil ?_
    refine WP.ret ⟨_, rfl, ?_⟩
    have h1 : chkErr fs ≠ 0 := by simpa using hc2
    have he : askErr fs n p r t = chkErr fs := by rw [askErr, if_pos h1]
    have hl : selL fs n p r t tst = [] := by rw [selL, he, if_neg h1]
    rw [hl, he]
    exact ⟨none, 0, [], rfl, fun _ _ _ _ => OnesAt.nil, H.drop (List.nil_sublist _)⟩
  have h1 : ¬ chkErr fs ≠ 0 := by simpa using hc2
  obtain ⟨kl, kf⟩ := chk_ok (Classical.not_not.1 h1)
  refine WP.skip ?_
  refine WP.seq ?_
  refine WP.seq ?_
  refine WP.region ?_
  refine OPS.val rfl rfl rfl (Ev.mvI rfl) ?_
  refine OPS.call (d := some 25) rfl rfl rfl (EvC.func (fun_run rfl)) (fenKind n w) ?_
  rintro _ w ⟨rfl, hb⟩
  refine ⟨_, rfl, ?_⟩
  replace H := H.toBelow hb; clear hb
  refine OPS.val rfl rfl rfl (Ev.not rfl) ?_
  refine OPS.nil ?_
  refine WP.cond rfl (fun hc4 => ?_) (fun hc4 => ?_)
  · refine WP.seq ?_
    refine WP.region ?_
    refine OPS.val rfl rfl rfl (Ev.asS rfl) ?_
    refine OPS.val rfl rfl rfl (Ev.asI rfl) ?_
    refine OPS.nil ?_
    refine WP.ret ⟨_, rfl, ?_⟩
    have h2 : kindB n = false := by simpa using hc4
    have he : askErr fs n p r t = 14 := by rw [askErr, if_neg h1, if_pos h2]
    have hl : selL fs n p r t tst = [] := by rw [selL, he, if_neg (by decide)]
    rw [hl, he]
    exact ⟨none, 0, [], rfl, fun _ _ _ _ => OnesAt.nil, H.drop (List.nil_sublist _)⟩
  have h2 : ¬ kindB n = false := by simpa using hc4
  have hff := farFun
  refine WP.skip ?_
  refine WP.seq ?_
  refine WP.region ?_
  refine OPS.val rfl rfl rfl (Ev.asF rfl) ?_
  refine OPS.nil ?_
  refine WP.seq ?_
  refine WP.seq ?_
  refine WP.region ?_
  refine OPS.val rfl rfl rfl (Ev.mvI rfl) ?_
  refine OPS.val rfl rfl rfl (Ev.lss rfl rfl) ?_
  refine OPS.val rfl rfl rfl (Ev.mvB rfl) ?_
  refine OPS.gval rfl rfl rfl rfl rfl (fun hg => Ev.mvI (by first | rfl | exact gvE hg rfl)) ?_
  refine OPS.gval rfl rfl rfl rfl rfl (fun hg => Ev.gtr (by first | rfl | exact gvE hg rfl) (by first | rfl | exact gvE hg rfl)) ?_
  refine OPS.val rfl rfl rfl ((by first | exact Ev.pickOr rfl rfl rfl | exact Ev.pickAnd rfl rfl rfl)) ?_
  refine OPS.val rfl rfl rfl (Ev.mvB rfl) ?_
  refine OPS.gval rfl rfl rfl rfl rfl (fun hg => Ev.mvF (by first | rfl | exact gvE hg rfl)) ?_
  refine OPS.gval rfl rfl rfl rfl rfl (fun hg => Ev.fieldAddr (fld_run rfl) (by first | rfl | exact gvE hg rfl)) ?_
  refine OPS.gval rfl rfl rfl rfl rfl (fun hg => Ev.load1 (agg_run rfl) (by first | rfl | exact gvE hg rfl) (by first | exact H.ldL 0 rfl _ rfl | exact H.ldL 1 rfl _ rfl | exact H.ldL 2 rfl _ rfl | exact H.ldL 3 rfl _ rfl | exact H.ldL 4 rfl _ rfl | exact H.ldL 5 rfl _ rfl | exact H.ldL 6 rfl _ rfl | exact H.ldL 7 rfl _ rfl | exact H.ld0 (by assumption) | assumption | exact H.ldS (by assumption) (by assumption))) ?_
  refine OPS.gcall0 (fenFar p.x w) (fun _ _ h => h) rfl rfl rfl rfl rfl (fun hg => EvC.conv (EvC.clos0 (by first | rfl | exact gvE hg rfl) (fun_run (by assumption))) (congrArg (· ++ _) (l1 (by first | rfl | exact gvE hg rfl)))) ?_
  intro w hbc; replace H := H.toBelow hbc
  refine OPS.val rfl rfl rfl ((by first | exact Ev.pickOr rfl rfl rfl | exact Ev.pickAnd rfl rfl rfl)) ?_
  refine OPS.val rfl rfl rfl (Ev.mvB rfl) ?_
  refine OPS.gval rfl rfl rfl rfl rfl (fun hg => Ev.mvF (by first | rfl | exact gvE hg rfl)) ?_
  refine OPS.gval rfl rfl rfl rfl rfl (fun hg => Ev.fieldAddr (fld_run rfl) (by first | rfl | exact gvE hg rfl)) ?_
  refine OPS.gval rfl rfl rfl rfl rfl (fun hg => Ev.load1 (agg_run rfl) (by first | rfl | exact gvE hg rfl) (by first | exact H.ldL 0 rfl _ rfl | exact H.ldL 1 rfl _ rfl | exact H.ldL 2 rfl _ rfl | exact H.ldL 3 rfl _ rfl | exact H.ldL 4 rfl _ rfl | exact H.ldL 5 rfl _ rfl | exact H.ldL 6 rfl _ rfl | exact H.ldL 7 rfl _ rfl | exact H.ld0 (by assumption) | assumption | exact H.ldS (by assumption) (by assumption))) ?_
  refine OPS.gcall0 (fenFar p.y w) (fun _ _ h => h) rfl rfl rfl rfl rfl (fun hg => EvC.conv (EvC.clos0 (by first | rfl | exact gvE hg rfl) (fun_run (by assumption))) (congrArg (· ++ _) (l1 (by first | rfl | exact gvE hg rfl)))) ?_
  intro w hbc; replace H := H.toBelow hbc
  refine OPS.val rfl rfl rfl ((by first | exact Ev.pickOr rfl rfl rfl | exact Ev.pickAnd rfl rfl rfl)) ?_
  refine OPS.val rfl rfl rfl (Ev.mvB rfl) ?_
  refine OPS.gval rfl rfl rfl rfl rfl (fun hg => Ev.mvI (by first | rfl | exact gvE hg rfl)) ?_
  refine OPS.gval rfl rfl rfl rfl rfl (fun hg => Ev.lss (by first | rfl | exact gvE hg rfl) (by first | rfl | exact gvE hg rfl)) ?_
  refine OPS.val rfl rfl rfl ((by first | exact Ev.pickOr rfl rfl rfl | exact Ev.pickAnd rfl rfl rfl)) ?_
  refine OPS.val rfl rfl rfl (Ev.mvB rfl) ?_
  refine OPS.gval rfl rfl rfl rfl rfl (fun hg => Ev.mvI (by first | rfl | exact gvE hg rfl)) ?_
  refine OPS.gval rfl rfl rfl rfl rfl (fun hg => Ev.gtr (by first | rfl | exact gvE hg rfl) (by first | rfl | exact gvE hg rfl)) ?_
  refine OPS.val rfl rfl rfl ((by first | exact Ev.pickOr rfl rfl rfl | exact Ev.pickAnd rfl rfl rfl)) ?_
  refine OPS.nil ?_
  refine WP.cond rfl (fun hc7 => ?_) (fun hc7 => ?_)
  · refine WP.seq ?_
    refine WP.region ?_
    refine OPS.val rfl rfl rfl (Ev.asS rfl) ?_
    refine OPS.val rfl rfl rfl (Ev.asI rfl) ?_
    refine OPS.nil ?_
    refine WP.ret ⟨_, rfl, ?_⟩
    have he : askErr fs n p r t = 1 := by rw [askErr, if_neg h1, if_neg h2, if_pos hc7]
    have hl : selL fs n p r t tst = [] := by rw [selL, he, if_neg (by decide)]
    rw [hl, he]
    exact ⟨none, 0, [], rfl, fun _ _ _ _ => OnesAt.nil, H.drop (List.nil_sublist _)⟩
  have he : askErr fs n p r t = 0 := by rw [askErr, if_neg h1, if_neg h2, if_neg (by rw [hc7]; simp)]
  have hl : selL fs n p r t tst = idxF (selB n t tst) fs fs.length := by rw [selL, he, if_pos rfl]
  rw [hl, he]
  clear hl
  refine WP.skip ?_
  refine WP.seq ?_
  refine WP.region ?_
  refine OPS.val rfl rfl rfl (Ev.asS rfl) ?_
  refine OPS.nil ?_
  refine WP.seq ?_
  refine WP.seq ?_
  refine WP.region ?_
  refine OPS.val rfl rfl rfl (Ev.mvS rfl) ?_
  refine OPS.val rfl rfl rfl (Ev.len (el_run rfl) rfl) ?_
  refine OPS.val rfl rfl rfl (Ev.mvI rfl) ?_
  refine OPS.nil ?_
  refine WP.block ?_
  refine WP.loop [16, 17, 18, 55, 56, 57, 58, 59, 60, 61, 62, 63, 64, 65, 66, 67, 68, 69, 70, 71, 72, 73, 74, 75, 76, 77, 78, 79] (fun k e w' => ∃ (j : Nat) (S : Option Addr) (c : Nat) (Lo : List Blk), j + k = fs.length ∧ e 55 = I j ∧ e 16 = .slice S (idxF (selB n t tst) fs j).length c ∧ OwnS S c (idxF (selB n t tst) fs j).length ((idxF (selB n t tst) fs j).map I) 3 1 Lo ∧ SH w0 [] w' Lo) (fs.length) (⟨0, none, 0, [], by omega, rfl, rfl, OwnS.nil, H.drop (List.nil_sublist _)⟩) ?_
  clear H
  rintro k u w ⟨j, S, c, Lo, hk, h55, h16, hO, H⟩
  refine WP.know (t := 55) h55 (WP.know (t := 16) h16 ?_)
  refine WP.seq ?_
  refine WP.region ?_
  refine OPS.val rfl rfl rfl (Ev.lss rfl rfl) ?_
  refine OPS.nil ?_
  refine WP.seq ?_
  refine WP.cond rfl (fun hc11 => ?_) (fun hc11 => ?_)
  · have hlt : j < fs.length := by simpa using hc11
    obtain ⟨b, o, rfl, hcx⟩ := hz.rows j hlt
    have hfa := hz.each fs[j] (List.getElem_mem hlt)
    have hmem := List.getElem_mem hlt
    have hc' := cellsAt_sh H hcx
    have hsu := idxF_succ (selB n t tst) fs j
    have hil := idxF_len (selB n t tst) fs j
    rw [getDf hlt] at hsu
    obtain ⟨x, hx⟩ : ∃ x, x = fs[j] := ⟨_, rfl⟩
    rw [← hx] at hc' hfa hsu hmem
    refine WP.skip ?_
    refine WP.seq ?_
    refine WP.block ?_
    refine WP.seq ?_
    refine WP.region ?_
    refine OPS.val rfl rfl rfl (Ev.mvI rfl) ?_
    refine OPS.val rfl rfl rfl ((by first | exact Ev.indexAddr1 (el_run rfl) (size_run rfl) rfl rfl rfl (by omega) | exact Ev.indexAddr (el_run rfl) (size_run rfl) rfl rfl rfl (by omega))) ?_
    refine OPS.val rfl rfl rfl ((by first | exact Ev.loadO 0 H rfl (agg_run rfl) (size_run rfl) (by first | assumption | rfl) rfl | exact Ev.loadO 1 H rfl (agg_run rfl) (size_run rfl) (by first | assumption | rfl) rfl | exact Ev.loadO 2 H rfl (agg_run rfl) (size_run rfl) (by first | assumption | rfl) rfl | exact Ev.loadO 3 H rfl (agg_run rfl) (size_run rfl) (by first | assumption | rfl) rfl | exact Ev.loadO 4 H rfl (agg_run rfl) (size_run rfl) (by first | assumption | rfl) rfl | exact Ev.loadO 5 H rfl (agg_run rfl) (size_run rfl) (by first | assumption | rfl) rfl | exact Ev.loadO 6 H rfl (agg_run rfl) (size_run rfl) (by first | assumption | rfl) rfl | (change Ev _ _ _ _ (Op.load 28 (Operand.tmp 58)) _; exact Ev.loadN (fenCells x) (agg_run rfl) (size_run rfl) rfl hc'))) ?_
    refine OPS.alloc rfl rfl rfl rfl (zero_run rfl) rfl H ?_
    clear H; intro g18 w H
    refine OPS.val rfl rfl rfl (Ev.asI rfl) ?_
    first | refine OPS.store 0 _ rfl rfl rfl (size_run rfl) rfl (cA rfl) rfl rfl H rfl (by simp) ?_ | refine OPS.store 1 _ rfl rfl rfl (size_run rfl) rfl (cA rfl) rfl rfl H rfl (by simp) ?_ | refine OPS.store 2 _ rfl rfl rfl (size_run rfl) rfl (cA rfl) rfl rfl H rfl (by simp) ?_ | refine OPS.store 3 _ rfl rfl rfl (size_run rfl) rfl (cA rfl) rfl rfl H rfl (by simp) ?_ | refine OPS.store 4 _ rfl rfl rfl (size_run rfl) rfl (cA rfl) rfl rfl H rfl (by simp) ?_ | refine OPS.store 5 _ rfl rfl rfl (size_run rfl) rfl (cA rfl) rfl rfl H rfl (by simp) ?_ | refine OPS.store 6 _ rfl rfl rfl (size_run rfl) rfl (cA rfl) rfl rfl H rfl (by simp) ?_ | refine OPS.store 7 _ rfl rfl rfl (size_run rfl) rfl (cA rfl) rfl rfl H rfl (by simp) ?_ | refine OPS.store 8 _ rfl rfl rfl (size_run rfl) rfl (cA rfl) rfl rfl H rfl (by simp) ?_
    clear H; intro w H; try simp only [List.set_cons_zero, List.set_cons_succ, putL, Nat.zero_add] at H
    refine OPS.nil ?_
    refine WP.seq ?_
    dsimp only [fenCells] at H
    refine WP.region ?_
    refine OPS.val rfl rfl rfl (Ev.fieldAddr (fld_run rfl) rfl) ?_
    refine OPS.val rfl rfl rfl (Ev.load1 (agg_run rfl) rfl (by first | exact H.ldL 0 rfl _ rfl | exact H.ldL 1 rfl _ rfl | exact H.ldL 2 rfl _ rfl | exact H.ldL 3 rfl _ rfl | exact H.ldL 4 rfl _ rfl | exact H.ldL 5 rfl _ rfl | exact H.ldL 6 rfl _ rfl | exact H.ldL 7 rfl _ rfl | exact H.ld0 (by assumption) | assumption | exact H.ldS (by assumption) (by assumption))) ?_
    refine OPS.val rfl rfl rfl (Ev.mvI rfl) ?_
    refine OPS.val rfl rfl rfl (Ev.eql rfl rfl) ?_
    refine OPS.val rfl rfl rfl (Ev.mvB rfl) ?_
    refine OPS.gval rfl rfl rfl rfl rfl (fun hg => (by first | exact Ev.loadO 0 H rfl (agg_run rfl) (size_run rfl) (by first | assumption | rfl) rfl | exact Ev.loadO 1 H rfl (agg_run rfl) (size_run rfl) (by first | assumption | rfl) rfl | exact Ev.loadO 2 H rfl (agg_run rfl) (size_run rfl) (by first | assumption | rfl) rfl | exact Ev.loadO 3 H rfl (agg_run rfl) (size_run rfl) (by first | assumption | rfl) rfl | exact Ev.loadO 4 H rfl (agg_run rfl) (size_run rfl) (by first | assumption | rfl) rfl | exact Ev.loadO 5 H rfl (agg_run rfl) (size_run rfl) (by first | assumption | rfl) rfl | exact Ev.loadO 6 H rfl (agg_run rfl) (size_run rfl) (by first | assumption | rfl) rfl | (change Ev _ _ _ _ (Op.load 28 (Operand.tmp 18)) _; fail))) ?_
    refine OPS.gval rfl rfl rfl rfl rfl (fun hg => Ev.mvI (by first | rfl | exact gvE hg rfl)) ?_
    refine OPS.gcall0 (f := 13) (fenActive x t w) (fun _ _ h => h) rfl rfl rfl rfl rfl (fun hg => EvC.conv (EvC.func (fun_run rfl)) (l2 (by first | rfl | exact gvE hg rfl) (by first | rfl | exact gvE hg rfl))) ?_
    intro w hbc; replace H := H.toBelow hbc
    refine OPS.val rfl rfl rfl ((by first | exact Ev.pickOr rfl rfl rfl | exact Ev.pickAnd rfl rfl rfl)) ?_
    refine OPS.val rfl rfl rfl (Ev.mvB rfl) ?_
    refine OPS.gval rfl rfl rfl rfl rfl (fun hg => Ev.mvF (by first | rfl | exact gvE hg rfl)) ?_
    refine OPS.gval rfl rfl rfl rfl rfl (fun hg => Ev.fieldAddr (fld_run rfl) (by first | rfl | exact gvE hg rfl)) ?_
    refine OPS.gval rfl rfl rfl rfl rfl (fun hg => Ev.load1 (agg_run rfl) (by first | rfl | exact gvE hg rfl) (by first | exact H.ldL 0 rfl _ rfl | exact H.ldL 1 rfl _ rfl | exact H.ldL 2 rfl _ rfl | exact H.ldL 3 rfl _ rfl | exact H.ldL 4 rfl _ rfl | exact H.ldL 5 rfl _ rfl | exact H.ldL 6 rfl _ rfl | exact H.ldL 7 rfl _ rfl | exact H.ld0 (by assumption) | assumption | exact H.ldS (by assumption) (by assumption))) ?_
    refine OPS.gcall0 (his he x hmem w H.below) (fun _ _ h => h) rfl rfl rfl rfl rfl (fun hg => EvC.conv (EvC.clos0 (by first | rfl | exact gvE hg rfl) (fun_run (by assumption))) (congrArg (· ++ _) (l1 (by first | rfl | exact gvE hg rfl)))) ?_
    intro w hbc; replace H := H.toBelow hbc
    refine OPS.val rfl rfl rfl ((by first | exact Ev.pickOr rfl rfl rfl | exact Ev.pickAnd rfl rfl rfl)) ?_
    refine OPS.nil ?_
    refine WP.cond rfl (fun hc13 => ?_) (fun hc13 => ?_)
    · have hsel : selB n t tst x = true := hc13
      rw [if_pos hsel] at hsu
      refine WP.region ?_
      refine OPS.val rfl rfl rfl (Ev.mvS rfl) ?_
      refine OPS.val rfl rfl rfl (Ev.mvI rfl) ?_
      refine OPS.buildSlice rfl rfl rfl rfl (bsl_39_1_0 rfl) H ?_
      clear H; intro g77 w H
      refine OPS.append (m := 1) (news := [I j]) (R := [⟨g77, 3, [I j]⟩, ⟨g18, 28, [I x.kind, .slice x.P.A x.P.l.length x.P.cap, I x.wf, I x.wt, I x.hf, I x.ht]⟩]) rfl rfl rfl rfl rfl (sl_run rfl) rfl rfl hO rfl (src_own H 0 rfl) rfl (by omega) (by unfold maxLen; omega) H (List.Perm.refl _) ?_
      clear H hO; intro S c Lo w hO H
      refine OPS.val rfl rfl rfl (Ev.asS rfl) ?_
      refine OPS.nil ?_
      refine WP.region ?_
      refine OPS.val rfl rfl rfl (Ev.add rfl rfl (by unfold fits; omega)) ?_
      refine OPS.val rfl rfl rfl (Ev.mvI rfl) ?_
      refine OPS.nil ?_
      first
        | exact ⟨(by repeat (first | exact Agree.refl _ _ | exact Agree.mix _ _ _ | refine Agree.upd rfl ?_ | refine Agree.mix2 rfl ?_)), k - 1, by omega, j + 1, S, c, Lo, by omega, rfl, (by rw [hsu, List.length_append]; rfl), (by rw [hsu, List.length_append, List.map_append]; exact hO), H.drop (List.sublist_append_right [_, _] _)⟩
        | exact ⟨(by repeat (first | exact Agree.refl _ _ | exact Agree.mix _ _ _ | refine Agree.upd rfl ?_ | refine Agree.mix2 rfl ?_)), k - 1, by omega, j + 1, S, c, Lo, by omega, rfl, (by rw [hsu]; rfl), (by rw [hsu]; exact hO), H.drop (List.sublist_cons_self _ _)⟩
    have hsel : selB n t tst x = false := hc13
    rw [if_neg (by rw [hsel]; simp), List.append_nil] at hsu
    refine WP.skip ?_
    refine WP.region ?_
    refine OPS.val rfl rfl rfl (Ev.add rfl rfl (by unfold fits; omega)) ?_
    refine OPS.val rfl rfl rfl (Ev.mvI rfl) ?_
    refine OPS.nil ?_
    first
      | exact ⟨(by repeat (first | exact Agree.refl _ _ | exact Agree.mix _ _ _ | refine Agree.upd rfl ?_ | refine Agree.mix2 rfl ?_)), k - 1, by omega, j + 1, S, c, Lo, by omega, rfl, (by rw [hsu, List.length_append]; rfl), (by rw [hsu, List.length_append, List.map_append]; exact hO), H.drop (List.sublist_append_right [_, _] _)⟩
      | exact ⟨(by repeat (first | exact Agree.refl _ _ | exact Agree.mix _ _ _ | refine Agree.upd rfl ?_ | refine Agree.mix2 rfl ?_)), k - 1, by omega, j + 1, S, c, Lo, by omega, rfl, (by rw [hsu]; rfl), (by rw [hsu]; exact hO), H.drop (List.sublist_cons_self _ _)⟩
  refine WP.exit ?_
  refine XB.hit ?_
  refine WP.seq ?_
  refine WP.region ?_
  refine OPS.val rfl rfl rfl (Ev.mvS rfl) ?_
  refine OPS.val rfl rfl rfl (Ev.asS rfl) ?_
  refine OPS.val rfl rfl rfl (Ev.asI rfl) ?_
  refine OPS.nil ?_
  refine WP.ret ⟨_, rfl, ?_⟩
  have hj : j = fs.length := by simp at hc11; omega
  subst hj
  exact ⟨S, c, Lo, rfl, fun w0 X w H => (hO.ones (R := []) H).1, H⟩
def coverF (c : Pt) (r : Int) (f : Fen) : Bool := decide (discErr f.P.l c r = 0) && coverV f.P.l c r
def touchF (c : Pt) (r : Int) (f : Fen) : Bool := decide (discErr f.P.l c r = 0) && touchV f.P.l c r
theorem fenSure1 (A : Option Addr) (l : List Pt) (cap gp gr : Nat) (c : Pt) (r : Int) (w0 : World) (hz : RowsAt 2 ptCells w0 A l) (hp : cellsAt w0 gp 0 [I c.x, I c.y]) (hr : w0.cell? ⟨gr, 0, none⟩ = some (I r)) :
    Calls Try.prog 57 #[.slice A l.length cap, .pointer (some ⟨gp, 0, none⟩), .pointer (some ⟨gr, 0, none⟩)] w0 fun e w' => e = .returned (.bool (decide (discErr l c r = 0) && coverV l c r)) ∧ Below w0.heap.size w0 w' := by
  have H := SH.refl w0
  refine Calls.ofWP Try.func57 rfl Try.results57 Try.ntmps57 rfl ?_
  refine WP.seq ?_
  refine WP.region ?_
  refine OPS.val rfl rfl rfl (Ev.asB rfl) ?_
  refine OPS.nil ?_
  refine WP.seq ?_
  refine WP.region ?_
  refine OPS.val rfl rfl rfl (Ev.mvS rfl) ?_
  refine OPS.val rfl rfl rfl ((by first | exact Ev.loadO 0 H rfl (agg_run rfl) (size_run rfl) (by first | assumption | rfl) rfl | exact Ev.loadO 1 H rfl (agg_run rfl) (size_run rfl) (by first | assumption | rfl) rfl | exact Ev.loadO 2 H rfl (agg_run rfl) (size_run rfl) (by first | assumption | rfl) rfl | exact Ev.loadO 3 H rfl (agg_run rfl) (size_run rfl) (by first | assumption | rfl) rfl | exact Ev.loadO 4 H rfl (agg_run rfl) (size_run rfl) (by first | assumption | rfl) rfl | exact Ev.loadO 5 H rfl (agg_run rfl) (size_run rfl) (by first | assumption | rfl) rfl | exact Ev.loadO 6 H rfl (agg_run rfl) (size_run rfl) (by first | assumption | rfl) rfl | exact Ev.loadN [_, _] (agg_run rfl) (size_run rfl) rfl ⟨H.ldL 0 rfl _ rfl, H.ldL 0 rfl _ rfl, trivial⟩ | exact Ev.loadN [_, _] (agg_run rfl) (size_run rfl) rfl ⟨H.ldL 1 rfl _ rfl, H.ldL 1 rfl _ rfl, trivial⟩ | exact Ev.loadN [_, _] (agg_run rfl) (size_run rfl) rfl ⟨H.ldL 2 rfl _ rfl, H.ldL 2 rfl _ rfl, trivial⟩ | exact Ev.loadN [_, _] (agg_run rfl) (size_run rfl) rfl ⟨H.ldL 3 rfl _ rfl, H.ldL 3 rfl _ rfl, trivial⟩ | exact Ev.loadN [_, _] (agg_run rfl) (size_run rfl) rfl ⟨H.ldL 4 rfl _ rfl, H.ldL 4 rfl _ rfl, trivial⟩ | (change Ev _ _ _ _ (Op.load 36 (Operand.tmp 1)) _; exact Ev.loadN [I c.x, I c.y] (agg_run rfl) (size_run rfl) rfl hp))) ?_
  refine OPS.val rfl rfl rfl (Ev.load1 (agg_run rfl) rfl (by first | exact H.ldL 0 rfl _ rfl | exact H.ldL 1 rfl _ rfl | exact H.ldL 2 rfl _ rfl | exact H.ldL 3 rfl _ rfl | exact H.ldL 4 rfl _ rfl | exact H.ldL 5 rfl _ rfl | exact H.ldL 6 rfl _ rfl | exact H.ldL 7 rfl _ rfl | exact H.ld0 (by assumption) | assumption | exact H.ldS (by assumption) (by assumption))) ?_
  refine OPS.call (d := some 11) rfl rfl rfl (EvC.func (fun_run rfl)) (geoCovers A l cap c r w0 hz) ?_
  rintro _ w ⟨rfl, hb⟩
  refine ⟨_, rfl, ?_⟩
  replace H := H.toBelow hb; clear hb
  refine OPS.val rfl rfl rfl (Ev.mvT rfl) ?_
  refine OPS.val rfl rfl rfl (Ev.extract rfl rfl) ?_
  refine OPS.val rfl rfl rfl (Ev.extract rfl rfl) ?_
  refine OPS.val rfl rfl rfl (Ev.asB rfl) ?_
  refine OPS.val rfl rfl rfl (Ev.asI rfl) ?_
  refine OPS.nil ?_
  refine WP.seq ?_
  refine WP.region ?_
  refine OPS.val rfl rfl rfl (Ev.mvB rfl) ?_
  refine OPS.val rfl rfl rfl (Ev.asB rfl) ?_
  refine OPS.nil ?_
  refine WP.ret ⟨_, rfl, ?_⟩
  exact ⟨rfl, H.below⟩
theorem fenPoss1 (A : Option Addr) (l : List Pt) (cap gp gr : Nat) (c : Pt) (r : Int) (w0 : World) (hz : RowsAt 2 ptCells w0 A l) (hp : cellsAt w0 gp 0 [I c.x, I c.y]) (hr : w0.cell? ⟨gr, 0, none⟩ = some (I r)) :
    Calls Try.prog 61 #[.slice A l.length cap, .pointer (some ⟨gp, 0, none⟩), .pointer (some ⟨gr, 0, none⟩)] w0 fun e w' => e = .returned (.bool (decide (discErr l c r = 0) && touchV l c r)) ∧ Below w0.heap.size w0 w' := by
  have H := SH.refl w0
  refine Calls.ofWP Try.func61 rfl Try.results61 Try.ntmps61 rfl ?_
  refine WP.seq ?_
  refine WP.region ?_
  refine OPS.val rfl rfl rfl (Ev.asB rfl) ?_
  refine OPS.nil ?_
  refine WP.seq ?_
  refine WP.region ?_
  refine OPS.val rfl rfl rfl (Ev.mvS rfl) ?_
  refine OPS.val rfl rfl rfl ((by first | exact Ev.loadO 0 H rfl (agg_run rfl) (size_run rfl) (by first | assumption | rfl) rfl | exact Ev.loadO 1 H rfl (agg_run rfl) (size_run rfl) (by first | assumption | rfl) rfl | exact Ev.loadO 2 H rfl (agg_run rfl) (size_run rfl) (by first | assumption | rfl) rfl | exact Ev.loadO 3 H rfl (agg_run rfl) (size_run rfl) (by first | assumption | rfl) rfl | exact Ev.loadO 4 H rfl (agg_run rfl) (size_run rfl) (by first | assumption | rfl) rfl | exact Ev.loadO 5 H rfl (agg_run rfl) (size_run rfl) (by first | assumption | rfl) rfl | exact Ev.loadO 6 H rfl (agg_run rfl) (size_run rfl) (by first | assumption | rfl) rfl | exact Ev.loadN [_, _] (agg_run rfl) (size_run rfl) rfl ⟨H.ldL 0 rfl _ rfl, H.ldL 0 rfl _ rfl, trivial⟩ | exact Ev.loadN [_, _] (agg_run rfl) (size_run rfl) rfl ⟨H.ldL 1 rfl _ rfl, H.ldL 1 rfl _ rfl, trivial⟩ | exact Ev.loadN [_, _] (agg_run rfl) (size_run rfl) rfl ⟨H.ldL 2 rfl _ rfl, H.ldL 2 rfl _ rfl, trivial⟩ | exact Ev.loadN [_, _] (agg_run rfl) (size_run rfl) rfl ⟨H.ldL 3 rfl _ rfl, H.ldL 3 rfl _ rfl, trivial⟩ | exact Ev.loadN [_, _] (agg_run rfl) (size_run rfl) rfl ⟨H.ldL 4 rfl _ rfl, H.ldL 4 rfl _ rfl, trivial⟩ | (change Ev _ _ _ _ (Op.load 36 (Operand.tmp 1)) _; exact Ev.loadN [I c.x, I c.y] (agg_run rfl) (size_run rfl) rfl hp))) ?_
  refine OPS.val rfl rfl rfl (Ev.load1 (agg_run rfl) rfl (by first | exact H.ldL 0 rfl _ rfl | exact H.ldL 1 rfl _ rfl | exact H.ldL 2 rfl _ rfl | exact H.ldL 3 rfl _ rfl | exact H.ldL 4 rfl _ rfl | exact H.ldL 5 rfl _ rfl | exact H.ldL 6 rfl _ rfl | exact H.ldL 7 rfl _ rfl | exact H.ld0 (by assumption) | assumption | exact H.ldS (by assumption) (by assumption))) ?_
  refine OPS.call (d := some 11) rfl rfl rfl (EvC.func (fun_run rfl)) (geoTouches A l cap c r w0 hz) ?_
  rintro _ w ⟨rfl, hb⟩
  refine ⟨_, rfl, ?_⟩
  replace H := H.toBelow hb; clear hb
  refine OPS.val rfl rfl rfl (Ev.mvT rfl) ?_
  refine OPS.val rfl rfl rfl (Ev.extract rfl rfl) ?_
  refine OPS.val rfl rfl rfl (Ev.extract rfl rfl) ?_
  refine OPS.val rfl rfl rfl (Ev.asB rfl) ?_
  refine OPS.val rfl rfl rfl (Ev.asI rfl) ?_
  refine OPS.nil ?_
  refine WP.seq ?_
  refine WP.region ?_
  refine OPS.val rfl rfl rfl (Ev.mvB rfl) ?_
  refine OPS.val rfl rfl rfl (Ev.asB rfl) ?_
  refine OPS.nil ?_
  refine WP.ret ⟨_, rfl, ?_⟩
  exact ⟨rfl, H.below⟩
set_option maxRecDepth 20000 in
theorem fenSure (A : Option Addr) (fs : List Fen) (cap : Nat) (n : Int) (p : Pt) (r t : Int) (w0 : World) (hz : FensAt w0 A fs) :
    Calls Try.prog 34 #[.slice A fs.length cap, I n, .agg #[I p.x, I p.y], I r, I t] w0 fun e w' => ∃ (S : Option Addr) (c : Nat) (L : List Blk), e = .returned (.tuple #[.slice S (selL fs n p r t (coverF p r)).length c, I (askErr fs n p r t)]) ∧ Reads L (fun w => IntsAt w S (selL fs n p r t (coverF p r))) ∧ SH w0 [] w' L := by
  have H := SH.refl w0
  refine Calls.ofWP Try.func34 rfl Try.results34 Try.ntmps34 rfl ?_
  refine WP.seq ?_
  refine WP.region ?_
  refine OPS.box rfl rfl rfl rfl (cA rfl) H ?_
  clear H; intro g7 w H
  refine OPS.box rfl rfl rfl rfl (cI rfl) H ?_
  clear H; intro g8 w H
  refine OPS.val rfl rfl rfl (Ev.asS rfl) ?_
  refine OPS.val rfl rfl rfl (Ev.asI rfl) ?_
  refine OPS.nil ?_
  refine WP.seq ?_
  refine WP.region ?_
  refine OPS.val rfl rfl rfl (Ev.mvS rfl) ?_
  refine OPS.val rfl rfl rfl (Ev.mvI rfl) ?_
  refine OPS.val rfl rfl rfl ((by first | exact Ev.loadO 0 H rfl (agg_run rfl) (size_run rfl) (by first | assumption | rfl) rfl | exact Ev.loadO 1 H rfl (agg_run rfl) (size_run rfl) (by first | assumption | rfl) rfl | exact Ev.loadO 2 H rfl (agg_run rfl) (size_run rfl) (by first | assumption | rfl) rfl | exact Ev.loadO 3 H rfl (agg_run rfl) (size_run rfl) (by first | assumption | rfl) rfl | exact Ev.loadO 4 H rfl (agg_run rfl) (size_run rfl) (by first | assumption | rfl) rfl | exact Ev.loadO 5 H rfl (agg_run rfl) (size_run rfl) (by first | assumption | rfl) rfl | exact Ev.loadO 6 H rfl (agg_run rfl) (size_run rfl) (by first | assumption | rfl) rfl | exact Ev.loadN [_, _] (agg_run rfl) (size_run rfl) rfl ⟨H.ldL 0 rfl _ rfl, H.ldL 0 rfl _ rfl, trivial⟩ | exact Ev.loadN [_, _] (agg_run rfl) (size_run rfl) rfl ⟨H.ldL 1 rfl _ rfl, H.ldL 1 rfl _ rfl, trivial⟩ | exact Ev.loadN [_, _] (agg_run rfl) (size_run rfl) rfl ⟨H.ldL 2 rfl _ rfl, H.ldL 2 rfl _ rfl, trivial⟩ | exact Ev.loadN [_, _] (agg_run rfl) (size_run rfl) rfl ⟨H.ldL 3 rfl _ rfl, H.ldL 3 rfl _ rfl, trivial⟩ | exact Ev.loadN [_, _] (agg_run rfl) (size_run rfl) rfl ⟨H.ldL 4 rfl _ rfl, H.ldL 4 rfl _ rfl, trivial⟩ | (change Ev _ _ _ _ (Op.load 36 (Operand.tmp 7)) _; fail))) ?_
  refine OPS.val rfl rfl rfl (Ev.load1 (agg_run rfl) rfl (by first | exact H.ldL 0 rfl _ rfl | exact H.ldL 1 rfl _ rfl | exact H.ldL 2 rfl _ rfl | exact H.ldL 3 rfl _ rfl | exact H.ldL 4 rfl _ rfl | exact H.ldL 5 rfl _ rfl | exact H.ldL 6 rfl _ rfl | exact H.ldL 7 rfl _ rfl | exact H.ld0 (by assumption) | assumption | exact H.ldS (by assumption) (by assumption))) ?_
  refine OPS.val rfl rfl rfl (Ev.mvI rfl) ?_
  refine OPS.val rfl rfl rfl (Ev.makeFunc) ?_
  refine OPS.call (d := some 18) rfl rfl rfl (EvC.func (fun_run rfl)) (fenChosen A fs cap n p r t 57 [.pointer (some ⟨g7, 0, none⟩), .pointer (some ⟨g8, 0, none⟩)] (coverF p r) w rfl (hz.sh H) (fun _ f hf w' hb => fenSure1 f.P.A f.P.l f.P.cap g7 g8 p r w' (((hz.sh H).each f hf).pts.below hb) (cellsAt_below hb (cellsAt_own H 1 rfl [I p.x, I p.y] 0 (by intro j hj; match j, hj with | 0, _ => rfl | 1, _ => rfl))) (cell_below hb (H.ldL 0 rfl 0 rfl)))) ?_
  rintro _ w ⟨S, c, L, rfl, hR, Hc⟩
  refine ⟨_, rfl, ?_⟩
  replace H := SH.call (Lv := []) (by rw [List.append_nil]; exact H) Hc
  clear Hc
  refine OPS.val rfl rfl rfl (Ev.extract rfl rfl) ?_
  refine OPS.val rfl rfl rfl (Ev.extract rfl rfl) ?_
  refine OPS.val rfl rfl rfl (Ev.asS rfl) ?_
  refine OPS.val rfl rfl rfl (Ev.asI rfl) ?_
  refine OPS.nil ?_
  refine WP.ret ⟨_, rfl, ?_⟩
  exact ⟨S, c, L, rfl, hR, H.drop (List.sublist_append_right _ _)⟩
set_option maxRecDepth 20000 in
theorem fenPossible (A : Option Addr) (fs : List Fen) (cap : Nat) (n : Int) (p : Pt) (r t : Int) (w0 : World) (hz : FensAt w0 A fs) :
    Calls Try.prog 37 #[.slice A fs.length cap, I n, .agg #[I p.x, I p.y], I r, I t] w0 fun e w' => ∃ (S : Option Addr) (c : Nat) (L : List Blk), e = .returned (.tuple #[.slice S (selL fs n p r t (touchF p r)).length c, I (askErr fs n p r t)]) ∧ Reads L (fun w => IntsAt w S (selL fs n p r t (touchF p r))) ∧ SH w0 [] w' L := by
  have H := SH.refl w0
  refine Calls.ofWP Try.func37 rfl Try.results37 Try.ntmps37 rfl ?_
  refine WP.seq ?_
  refine WP.region ?_
  refine OPS.box rfl rfl rfl rfl (cA rfl) H ?_
  clear H; intro g7 w H
  refine OPS.box rfl rfl rfl rfl (cI rfl) H ?_
  clear H; intro g8 w H
  refine OPS.val rfl rfl rfl (Ev.asS rfl) ?_
  refine OPS.val rfl rfl rfl (Ev.asI rfl) ?_
  refine OPS.nil ?_
  refine WP.seq ?_
  refine WP.region ?_
  refine OPS.val rfl rfl rfl (Ev.mvS rfl) ?_
  refine OPS.val rfl rfl rfl (Ev.mvI rfl) ?_
  refine OPS.val rfl rfl rfl ((by first | exact Ev.loadO 0 H rfl (agg_run rfl) (size_run rfl) (by first | assumption | rfl) rfl | exact Ev.loadO 1 H rfl (agg_run rfl) (size_run rfl) (by first | assumption | rfl) rfl | exact Ev.loadO 2 H rfl (agg_run rfl) (size_run rfl) (by first | assumption | rfl) rfl | exact Ev.loadO 3 H rfl (agg_run rfl) (size_run rfl) (by first | assumption | rfl) rfl | exact Ev.loadO 4 H rfl (agg_run rfl) (size_run rfl) (by first | assumption | rfl) rfl | exact Ev.loadO 5 H rfl (agg_run rfl) (size_run rfl) (by first | assumption | rfl) rfl | exact Ev.loadO 6 H rfl (agg_run rfl) (size_run rfl) (by first | assumption | rfl) rfl | exact Ev.loadN [_, _] (agg_run rfl) (size_run rfl) rfl ⟨H.ldL 0 rfl _ rfl, H.ldL 0 rfl _ rfl, trivial⟩ | exact Ev.loadN [_, _] (agg_run rfl) (size_run rfl) rfl ⟨H.ldL 1 rfl _ rfl, H.ldL 1 rfl _ rfl, trivial⟩ | exact Ev.loadN [_, _] (agg_run rfl) (size_run rfl) rfl ⟨H.ldL 2 rfl _ rfl, H.ldL 2 rfl _ rfl, trivial⟩ | exact Ev.loadN [_, _] (agg_run rfl) (size_run rfl) rfl ⟨H.ldL 3 rfl _ rfl, H.ldL 3 rfl _ rfl, trivial⟩ | exact Ev.loadN [_, _] (agg_run rfl) (size_run rfl) rfl ⟨H.ldL 4 rfl _ rfl, H.ldL 4 rfl _ rfl, trivial⟩ | (change Ev _ _ _ _ (Op.load 36 (Operand.tmp 7)) _; fail))) ?_
  refine OPS.val rfl rfl rfl (Ev.load1 (agg_run rfl) rfl (by first | exact H.ldL 0 rfl _ rfl | exact H.ldL 1 rfl _ rfl | exact H.ldL 2 rfl _ rfl | exact H.ldL 3 rfl _ rfl | exact H.ldL 4 rfl _ rfl | exact H.ldL 5 rfl _ rfl | exact H.ldL 6 rfl _ rfl | exact H.ldL 7 rfl _ rfl | exact H.ld0 (by assumption) | assumption | exact H.ldS (by assumption) (by assumption))) ?_
  refine OPS.val rfl rfl rfl (Ev.mvI rfl) ?_
  refine OPS.val rfl rfl rfl (Ev.makeFunc) ?_
  refine OPS.call (d := some 18) rfl rfl rfl (EvC.func (fun_run rfl)) (fenChosen A fs cap n p r t 61 [.pointer (some ⟨g7, 0, none⟩), .pointer (some ⟨g8, 0, none⟩)] (touchF p r) w rfl (hz.sh H) (fun _ f hf w' hb => fenPoss1 f.P.A f.P.l f.P.cap g7 g8 p r w' (((hz.sh H).each f hf).pts.below hb) (cellsAt_below hb (cellsAt_own H 1 rfl [I p.x, I p.y] 0 (by intro j hj; match j, hj with | 0, _ => rfl | 1, _ => rfl))) (cell_below hb (H.ldL 0 rfl 0 rfl)))) ?_
  rintro _ w ⟨S, c, L, rfl, hR, Hc⟩
  refine ⟨_, rfl, ?_⟩
  replace H := SH.call (Lv := []) (by rw [List.append_nil]; exact H) Hc
  clear Hc
  refine OPS.val rfl rfl rfl (Ev.extract rfl rfl) ?_
  refine OPS.val rfl rfl rfl (Ev.extract rfl rfl) ?_
  refine OPS.val rfl rfl rfl (Ev.asS rfl) ?_
  refine OPS.val rfl rfl rfl (Ev.asI rfl) ?_
  refine OPS.nil ?_
  refine WP.ret ⟨_, rfl, ?_⟩
  exact ⟨S, c, L, rfl, hR, H.drop (List.sublist_append_right _ _)⟩
end Go.Proofs.Ytkfklebaeifdnaa
