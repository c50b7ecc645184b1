/-
  Walks: the fences that a question picks.
-/
import Derived.Test.YtjgdklhbegplfaaGreatF2
import Derived.Test.YtjgdklhbegplfaaGreatFacts
import Derived.Test.YtjgdklhbegplfaaGreatArg
import Derived.Test.YtjgdklhbegplfaaGreatEng
import Derived.Maps.Keyed
import Derived.Maps.RangeRun
set_option linter.all false
namespace Go.Proofs.YtjgdklhbegplfaaGreat
open Go Go.W Go.RowKit

def farB (n : Int) : Bool := decide (n < -16384) || decide (16384 < n)
def askErr (fs : List Fen) (n : Int) (p : Pt) (r t : Int) : Int := if chkErr fs ≠ 0 then chkErr fs else if kindB n = false then 14 else if (((((decide (t < 0) || decide (4294943999 < t)) || farB p.x) || farB p.y) || decide (r < 0)) || decide (16384 < r)) = true then 1 else 0
def idxF (q : Fen → Bool) (fs : List Fen) (j : Nat) : List Int := List.map (fun i : Nat => (i : Int)) ((List.range j).filter fun i => q (fs.getD i default))
theorem idxF_succ (q : Fen → Bool) (fs : List Fen) (j : Nat) : idxF q fs (j + 1) = idxF q fs j ++ if q (fs.getD j default) = true then [(j : Int)] else [] := by
  unfold idxF
  rw [List.range_succ, List.filter_append, List.map_append]
  by_cases h : q (fs.getD j default) = true
  · rw [if_pos h]; simp only [List.filter_cons, h, if_true, List.filter_nil, List.map_cons, List.map_nil]
  · rw [if_neg h]; simp only [List.filter_cons, h, if_false, List.filter_nil, List.map_nil]; rfl
theorem idxF_len (q : Fen → Bool) (fs : List Fen) (j : Nat) : (idxF q fs j).length ≤ j := by unfold idxF; rw [List.length_map]; exact Nat.le_trans (List.length_filter_le _ _) (by simp)
theorem mem_idxF {q : Fen → Bool} {fs : List Fen} {j i : Nat} : (i : Int) ∈ idxF q fs j ↔ i < j ∧ q (fs.getD i default) = true := by
  unfold idxF
  simp only [List.mem_map, List.mem_filter, List.mem_range]
  constructor
  · rintro ⟨k, hk, he⟩
    obtain rfl : k = i := by omega
    exact hk
  · exact fun h => ⟨i, h, rfl⟩
theorem getDf {l : List Fen} {i : Nat} (h : i < l.length) : l.getD i default = l[i] := by rw [List.getD_eq_getElem?_getD, List.getElem?_eq_getElem h]; rfl
def selB (n t : Int) (tst : Fen → Bool) (f : Fen) : Bool := (decide (f.kind = n) && activeB f t) && tst f
def selL (fs : List Fen) (n : Int) (p : Pt) (r t : Int) (tst : Fen → Bool) : List Int := if askErr fs n p r t = 0 then idxF (selB n t tst) fs fs.length else []
theorem fsErr_ok {fs : List Fen} (h : fsErr fs = 0) : ∀ f ∈ fs, fErr f = 0 := by
  induction fs with
  | nil => intro f hf; cases hf
  | cons x l ih =>
    rw [fsErr] at h
    split at h
    · rename_i h1; exact absurd h h1
    · rename_i h1
      intro f hf
      rcases List.mem_cons.1 hf with rfl | hf
      · exact Classical.not_not.1 h1
      · exact ih h f hf
theorem chk_ok {fs : List Fen} (h : chkErr fs = 0) : fs.length ≤ 32 ∧ ∀ f ∈ fs, fErr f = 0 := by
  unfold chkErr at h
  split at h
  · cases h
  · exact ⟨by omega, fsErr_ok h⟩
theorem fErr_ok {f : Fen} (h : fErr f = 0) : kindB f.kind = true ∧ polyErr f.P.l = 0 ∧ (0 ≤ f.wf ∧ f.wf ≤ f.wt ∧ f.wt ≤ 4294944000) ∧ 0 ≤ f.hf ∧ f.hf ≤ f.ht ∧ f.ht ≤ 86400 := by
  unfold fErr at h
  split at h
  · cases h
  rename_i h1
  split at h
  · rename_i h2; exact absurd h h2
  rename_i h2
  split at h
  · cases h
  rename_i h3
  refine ⟨by simpa using h1, Classical.not_not.1 h2, ?_⟩
  unfold winB at h3
  simp at h3
  omega
theorem ask_ok {fs : List Fen} {n : Int} {p : Pt} {r t : Int} (h : askErr fs n p r t = 0) : chkErr fs = 0 ∧ kindB n = true ∧ PtR p ∧ (0 ≤ t ∧ t ≤ 4294943999) ∧ 0 ≤ r ∧ r ≤ 16384 := by
  unfold askErr at h
  split at h
  · rename_i h1; exact absurd h h1
  rename_i h1
  split at h
  · cases h
  rename_i h2
  split at h
  · cases h
  rename_i h3
  unfold farB at h3
  simp at h3
  exact ⟨Classical.not_not.1 h1, by simpa using h2, ⟨by omega, by omega, by omega, by omega⟩, by omega, by omega, by omega⟩
theorem fenFar (n : Int) (w0 : World) : Calls Tryz.prog 150 #[I n] w0 fun e w' => e = .returned (.bool (farB n)) ∧ Below w0.heap.size w0 w' := by
  have H := SH.refl w0
  refine Calls.ofWP Tryz.func150 rfl Tryz.results150 Tryz.ntmps150 rfl ?_
  refine WP.seq ?_
  refine WP.region ?_
  refine OPS.val rfl rfl rfl (Ev.asB rfl) ?_
  refine OPS.nil ?_
  refine WP.seq ?_
  refine WP.region ?_
  refine OPS.val rfl rfl rfl (Ev.mvI rfl) ?_
  refine OPS.val rfl rfl rfl (Ev.lss rfl rfl) ?_
  refine OPS.val rfl rfl rfl (Ev.mvB rfl) ?_
  refine OPS.gval rfl rfl rfl rfl rfl (fun hg => Ev.mvI (by rfl)) ?_
  refine OPS.gval rfl rfl rfl rfl rfl (fun hg => Ev.gtr (by exact gvE hg rfl) (by rfl)) ?_
  refine OPS.val rfl rfl rfl ((by exact Ev.pickOr rfl rfl rfl)) ?_
  refine OPS.val rfl rfl rfl (Ev.asB rfl) ?_
  refine OPS.nil ?_
  refine WP.ret ⟨_, rfl, ?_⟩
  exact ⟨rfl, H.below⟩
theorem farFun : funT 150 = true := rfl
set_option maxHeartbeats 2000000 in
theorem fenChosen (A : Option Addr) (fs : List Fen) (cap : Nat) (n : Int) (p : Pt) (r t : Int) (F : Nat) (caps : List Value) (tst : Fen → Bool) (w0 : World) (hfun : funT F = true) (hz : FensAt w0 A fs)
    (his : askErr fs n p r t = 0 → ∀ f ∈ fs, ∀ w, Below w0.heap.size w0 w → Calls Tryz.prog F ([Value.slice f.P.A f.P.l.length f.P.cap] ++ caps).toArray w fun e w' => e = .returned (.bool (tst f)) ∧ Below w.heap.size w w') :
    Calls Tryz.prog 124 #[.slice A fs.length cap, I n, .agg #[I p.x, I p.y], I r, I t, .func (.func F) #[] caps.toArray] w0 fun e w' => ∃ (S : Option Addr) (c : Nat) (L : List Blk), e = .returned (.tuple #[.slice S (selL fs n p r t tst).length c, I (askErr fs n p r t)]) ∧ Reads L (fun w => IntsAt w S (selL fs n p r t tst)) ∧ SH w0 [] w' L := by
  have H := SH.refl w0
  refine Calls.ofWP Tryz.func124 rfl Tryz.results124 Tryz.ntmps124 rfl ?_
  refine WP.seq ?_
  refine WP.region ?_
  refine OPS.box rfl rfl rfl rfl (cA rfl) H ?_
  clear H; intro g8 w H
  refine OPS.val rfl rfl rfl (Ev.asS rfl) ?_
  refine OPS.val rfl rfl rfl (Ev.asI rfl) ?_
  refine OPS.nil ?_
  refine WP.seq ?_
  refine WP.seq ?_
  refine WP.region ?_
  refine OPS.val rfl rfl rfl (Ev.mvS rfl) ?_
  refine OPS.call (d := some 20) rfl rfl rfl (EvC.func (fun_run rfl)) (fenCheck A fs cap w (hz.sh H)) ?_
  rintro _ w ⟨rfl, hb⟩
  refine ⟨_, rfl, ?_⟩
  replace H := H.toBelow hb; clear hb
  refine OPS.val rfl rfl rfl (Ev.asI rfl) ?_
  refine OPS.nil ?_
  refine WP.seq ?_
  refine WP.region ?_
  refine OPS.val rfl rfl rfl (Ev.mvI rfl) ?_
  refine OPS.val rfl rfl rfl (Ev.neq rfl rfl) ?_
  refine OPS.nil ?_
  refine WP.cond rfl (fun hc2 => ?_) (fun hc2 => ?_)
  · refine WP.seq ?_
    refine WP.region ?_
    refine OPS.val rfl rfl rfl (Ev.mvI rfl) ?_
    refine OPS.val rfl rfl rfl (Ev.asS rfl) ?_
    refine OPS.val rfl rfl rfl (Ev.asI rfl) ?_
    refine OPS.nil ?_
    refine WP.ret ⟨_, rfl, ?_⟩
    have h1 : chkErr fs ≠ 0 := by simpa using hc2
    have he : askErr fs n p r t = chkErr fs := by rw [askErr, if_pos h1]
    have hl : selL fs n p r t tst = [] := by rw [selL, he, if_neg h1]
    rw [hl, he]
    exact ⟨none, 0, [], rfl, fun _ _ _ _ => OnesAt.nil, H.drop (List.nil_sublist _)⟩
  have h1 : ¬ chkErr fs ≠ 0 := by simpa using hc2
  obtain ⟨kl, kf⟩ := chk_ok (Classical.not_not.1 h1)
  refine WP.skip ?_
  refine WP.seq ?_
  refine WP.seq ?_
  refine WP.region ?_
  refine OPS.val rfl rfl rfl (Ev.mvI rfl) ?_
  refine OPS.call (d := some 25) rfl rfl rfl (EvC.func (fun_run rfl)) (fenKind n w) ?_
  rintro _ w ⟨rfl, hb⟩
  refine ⟨_, rfl, ?_⟩
  replace H := H.toBelow hb; clear hb
  refine OPS.val rfl rfl rfl (Ev.not rfl) ?_
  refine OPS.nil ?_
  refine WP.cond rfl (fun hc4 => ?_) (fun hc4 => ?_)
  · refine WP.seq ?_
    refine WP.region ?_
    refine OPS.val rfl rfl rfl (Ev.asS rfl) ?_
    refine OPS.val rfl rfl rfl (Ev.asI rfl) ?_
    refine OPS.nil ?_
    refine WP.ret ⟨_, rfl, ?_⟩
    have h2 : kindB n = false := by simpa using hc4
    have he : askErr fs n p r t = 14 := by rw [askErr, if_neg h1, if_pos h2]
    have hl : selL fs n p r t tst = [] := by rw [selL, he, if_neg (by decide)]
    rw [hl, he]
    exact ⟨none, 0, [], rfl, fun _ _ _ _ => OnesAt.nil, H.drop (List.nil_sublist _)⟩
  have h2 : ¬ kindB n = false := by simpa using hc4
  have hff := farFun
  refine WP.skip ?_
  refine WP.seq ?_
  refine WP.region ?_
  refine OPS.val rfl rfl rfl (Ev.asF rfl) ?_
  refine OPS.nil ?_
  refine WP.seq ?_
  refine WP.seq ?_
  refine WP.region ?_
  refine OPS.val rfl rfl rfl (Ev.mvI rfl) ?_
  refine OPS.val rfl rfl rfl (Ev.lss rfl rfl) ?_
  refine OPS.val rfl rfl rfl (Ev.mvB rfl) ?_
  refine OPS.gval rfl rfl rfl rfl rfl (fun hg => Ev.mvI (by rfl)) ?_
  refine OPS.gval rfl rfl rfl rfl rfl (fun hg => Ev.gtr (by exact gvE hg rfl) (by rfl)) ?_
  refine OPS.val rfl rfl rfl ((by exact Ev.pickOr rfl rfl rfl)) ?_
  refine OPS.val rfl rfl rfl (Ev.mvB rfl) ?_
  refine OPS.gval rfl rfl rfl rfl rfl (fun hg => Ev.mvF (by rfl)) ?_
  refine OPS.gval rfl rfl rfl rfl rfl (fun hg => Ev.fieldAddr (fld_run rfl) (by rfl)) ?_
  refine OPS.gval rfl rfl rfl rfl rfl (fun hg => Ev.load1 (agg_run rfl) (by exact gvE hg rfl) (by exact H.ldL 0 rfl _ rfl)) ?_
  refine OPS.gcall0 (fenFar p.x w) (fun _ _ h => h) rfl rfl rfl rfl rfl (fun hg => EvC.conv (EvC.clos0 (by exact gvE hg rfl) (fun_run (by assumption))) (congrArg (· ++ _) (l1 (by exact gvE hg rfl)))) ?_
  intro w hbc; replace H := H.toBelow hbc
  refine OPS.val rfl rfl rfl ((by exact Ev.pickOr rfl rfl rfl)) ?_
  refine OPS.val rfl rfl rfl (Ev.mvB rfl) ?_
  refine OPS.gval rfl rfl rfl rfl rfl (fun hg => Ev.mvF (by rfl)) ?_
  refine OPS.gval rfl rfl rfl rfl rfl (fun hg => Ev.fieldAddr (fld_run rfl) (by rfl)) ?_
  refine OPS.gval rfl rfl rfl rfl rfl (fun hg => Ev.load1 (agg_run rfl) (by exact gvE hg rfl) (by exact H.ldL 0 rfl _ rfl)) ?_
  refine OPS.gcall0 (fenFar p.y w) (fun _ _ h => h) rfl rfl rfl rfl rfl (fun hg => EvC.conv (EvC.clos0 (by exact gvE hg rfl) (fun_run (by assumption))) (congrArg (· ++ _) (l1 (by exact gvE hg rfl)))) ?_
  intro w hbc; replace H := H.toBelow hbc
  refine OPS.val rfl rfl rfl ((by exact Ev.pickOr rfl rfl rfl)) ?_
  refine OPS.val rfl rfl rfl (Ev.mvB rfl) ?_
  refine OPS.gval rfl rfl rfl rfl rfl (fun hg => Ev.mvI (by rfl)) ?_
  refine OPS.gval rfl rfl rfl rfl rfl (fun hg => Ev.lss (by exact gvE hg rfl) (by rfl)) ?_
  refine OPS.val rfl rfl rfl ((by exact Ev.pickOr rfl rfl rfl)) ?_
  refine OPS.val rfl rfl rfl (Ev.mvB rfl) ?_
  refine OPS.gval rfl rfl rfl rfl rfl (fun hg => Ev.mvI (by rfl)) ?_
  refine OPS.gval rfl rfl rfl rfl rfl (fun hg => Ev.gtr (by exact gvE hg rfl) (by rfl)) ?_
  refine OPS.val rfl rfl rfl ((by exact Ev.pickOr rfl rfl rfl)) ?_
  refine OPS.nil ?_
  refine WP.cond rfl (fun hc7 => ?_) (fun hc7 => ?_)
  · refine WP.seq ?_
    refine WP.region ?_
    refine OPS.val rfl rfl rfl (Ev.asS rfl) ?_
    refine OPS.val rfl rfl rfl (Ev.asI rfl) ?_
    refine OPS.nil ?_
    refine WP.ret ⟨_, rfl, ?_⟩
    have he : askErr fs n p r t = 1 := by rw [askErr, if_neg h1, if_neg h2, if_pos hc7]
    have hl : selL fs n p r t tst = [] := by rw [selL, he, if_neg (by decide)]
    rw [hl, he]
    exact ⟨none, 0, [], rfl, fun _ _ _ _ => OnesAt.nil, H.drop (List.nil_sublist _)⟩
  have he : askErr fs n p r t = 0 := by rw [askErr, if_neg h1, if_neg h2, if_neg (by rw [hc7]; simp)]
  have hl : selL fs n p r t tst = idxF (selB n t tst) fs fs.length := by rw [selL, he, if_pos rfl]
  rw [hl, he]
  clear hl
  refine WP.skip ?_
  refine WP.seq ?_
  refine WP.region ?_
  refine OPS.val rfl rfl rfl (Ev.asS rfl) ?_
  refine OPS.nil ?_
  refine WP.seq ?_
  refine WP.seq ?_
  refine WP.region ?_
  refine OPS.val rfl rfl rfl (Ev.mvS rfl) ?_
  refine OPS.val rfl rfl rfl (Ev.len (el_run rfl) rfl) ?_
  refine OPS.val rfl rfl rfl (Ev.mvI rfl) ?_
  refine OPS.nil ?_
  refine WP.block ?_
  refine WP.loop [16, 17, 18, 55, 56, 57, 58, 59, 60, 61, 62, 63, 64, 65, 66, 67, 68, 69, 70, 71, 72, 73, 74, 75, 76, 77, 78, 79] (fun k e w' => ∃ (j : Nat) (S : Option Addr) (c : Nat) (Lo : List Blk), j + k = fs.length ∧ e 55 = I j ∧ e 16 = .slice S (idxF (selB n t tst) fs j).length c ∧ OwnS S c (idxF (selB n t tst) fs j).length ((idxF (selB n t tst) fs j).map I) 3 1 Lo ∧ SH w0 [] w' Lo) (fs.length) (⟨0, none, 0, [], by omega, rfl, rfl, OwnS.nil, H.drop (List.nil_sublist _)⟩) ?_
  clear H
  rintro k u w ⟨j, S, c, Lo, hk, h55, h16, hO, H⟩
  refine WP.know (t := 55) h55 (WP.know (t := 16) h16 ?_)
  refine WP.seq ?_
  refine WP.region ?_
  refine OPS.val rfl rfl rfl (Ev.lss rfl rfl) ?_
  refine OPS.nil ?_
  refine WP.seq ?_
  refine WP.cond rfl (fun hc11 => ?_) (fun hc11 => ?_)
  · have hlt : j < fs.length := by simpa using hc11
    obtain ⟨b, o, rfl, hcx⟩ := hz.rows j hlt
    have hfa := hz.each fs[j] (List.getElem_mem hlt)
    have hmem := List.getElem_mem hlt
    have hc' := cellsAt_sh H hcx
    have hsu := idxF_succ (selB n t tst) fs j
    have hil := idxF_len (selB n t tst) fs j
    rw [getDf hlt] at hsu
    obtain ⟨x, hx⟩ : ∃ x, x = fs[j] := ⟨_, rfl⟩
    rw [← hx] at hc' hfa hsu hmem
    refine WP.skip ?_
    refine WP.seq ?_
    refine WP.block ?_
    refine WP.seq ?_
    refine WP.region ?_
    refine OPS.val rfl rfl rfl (Ev.mvI rfl) ?_
    refine OPS.val rfl rfl rfl ((by exact Ev.indexAddr (el_run rfl) (size_run rfl) rfl rfl rfl (by omega))) ?_
    refine OPS.val rfl rfl rfl ((by (change Ev _ _ _ _ (Op.load 42 (Operand.tmp 58)) _; exact Ev.loadN (fenCells x) (agg_run rfl) (size_run rfl) rfl hc'))) ?_
    refine OPS.alloc rfl rfl rfl rfl (zero_run rfl) rfl H ?_
    clear H; intro g18 w H
    refine OPS.val rfl rfl rfl (Ev.asI rfl) ?_
    refine OPS.store 0 _ rfl rfl rfl (size_run rfl) rfl (cA rfl) rfl rfl H rfl (by simp) ?_
    clear H; intro w H; try simp only [List.set_cons_zero, List.set_cons_succ, putL, Nat.zero_add] at H
    refine OPS.nil ?_
    refine WP.seq ?_
    dsimp only [fenCells] at H
    refine WP.region ?_
    refine OPS.val rfl rfl rfl (Ev.fieldAddr (fld_run rfl) rfl) ?_
    refine OPS.val rfl rfl rfl (Ev.load1 (agg_run rfl) rfl (by exact H.ldL 0 rfl _ rfl)) ?_
    refine OPS.val rfl rfl rfl (Ev.mvI rfl) ?_
    refine OPS.val rfl rfl rfl (Ev.eql rfl rfl) ?_
    refine OPS.val rfl rfl rfl (Ev.mvB rfl) ?_
    refine OPS.gval rfl rfl rfl rfl rfl (fun hg => (by exact Ev.loadO 0 H rfl (agg_run rfl) (size_run rfl) (by rfl) rfl)) ?_
    refine OPS.gval rfl rfl rfl rfl rfl (fun hg => Ev.mvI (by rfl)) ?_
    refine OPS.gcall0 (f := 74) (fenActive x t w) (fun _ _ h => h) rfl rfl rfl rfl rfl (fun hg => EvC.conv (EvC.func (fun_run rfl)) (l2 (by exact gvE hg rfl) (by exact gvE hg rfl))) ?_
    intro w hbc; replace H := H.toBelow hbc
    refine OPS.val rfl rfl rfl ((by exact Ev.pickAnd rfl rfl rfl)) ?_
    refine OPS.val rfl rfl rfl (Ev.mvB rfl) ?_
    refine OPS.gval rfl rfl rfl rfl rfl (fun hg => Ev.mvF (by rfl)) ?_
    refine OPS.gval rfl rfl rfl rfl rfl (fun hg => Ev.fieldAddr (fld_run rfl) (by rfl)) ?_
    refine OPS.gval rfl rfl rfl rfl rfl (fun hg => Ev.load1 (agg_run rfl) (by exact gvE hg rfl) (by exact H.ldL 0 rfl _ rfl)) ?_
    refine OPS.gcall0 (his he x hmem w H.below) (fun _ _ h => h) rfl rfl rfl rfl rfl (fun hg => EvC.conv (EvC.clos0 (by exact gvE hg rfl) (fun_run (by assumption))) (congrArg (· ++ _) (l1 (by exact gvE hg rfl)))) ?_
    intro w hbc; replace H := H.toBelow hbc
    refine OPS.val rfl rfl rfl ((by exact Ev.pickAnd rfl rfl rfl)) ?_
    refine OPS.nil ?_
    refine WP.cond rfl (fun hc13 => ?_) (fun hc13 => ?_)
    · have hsel : selB n t tst x = true := hc13
      rw [if_pos hsel] at hsu
      refine WP.region ?_
      refine OPS.val rfl rfl rfl (Ev.mvS rfl) ?_
      refine OPS.val rfl rfl rfl (Ev.mvI rfl) ?_
      refine OPS.buildSlice rfl rfl rfl rfl (bsl_55_1_0 rfl) H ?_
      clear H; intro g77 w H
      refine OPS.append (m := 1) (news := [I j]) (R := [⟨g77, 3, [I j]⟩, ⟨g18, 42, [I x.kind, .slice x.P.A x.P.l.length x.P.cap, I x.wf, I x.wt, I x.hf, I x.ht]⟩]) rfl rfl rfl rfl rfl (sl_run rfl) rfl rfl hO rfl (src_own H 0 rfl) rfl (by omega) (by unfold maxLen; omega) H (List.Perm.refl _) ?_
      clear H hO; intro S c Lo w hO H
      refine OPS.val rfl rfl rfl (Ev.asS rfl) ?_
      refine OPS.nil ?_
      refine WP.region ?_
      refine OPS.val rfl rfl rfl (Ev.add rfl rfl (by unfold fits; omega)) ?_
      refine OPS.val rfl rfl rfl (Ev.mvI rfl) ?_
      refine OPS.nil ?_
      first
        | exact ⟨(by repeat (first | exact Agree.refl _ _ | exact Agree.mix _ _ _ | refine Agree.upd rfl ?_ | refine Agree.mix2 rfl ?_)), k - 1, by omega, j + 1, S, c, Lo, by omega, rfl, (by rw [hsu, List.length_append]; rfl), (by rw [hsu, List.length_append, List.map_append]; exact hO), H.drop (List.sublist_append_right [_, _] _)⟩
        | exact ⟨(by repeat (first | exact Agree.refl _ _ | exact Agree.mix _ _ _ | refine Agree.upd rfl ?_ | refine Agree.mix2 rfl ?_)), k - 1, by omega, j + 1, S, c, Lo, by omega, rfl, (by rw [hsu]; rfl), (by rw [hsu]; exact hO), H.drop (List.sublist_cons_self _ _)⟩
    have hsel : selB n t tst x = false := hc13
    rw [if_neg (by rw [hsel]; simp), List.append_nil] at hsu
    refine WP.skip ?_
    refine WP.region ?_
    refine OPS.val rfl rfl rfl (Ev.add rfl rfl (by unfold fits; omega)) ?_
    refine OPS.val rfl rfl rfl (Ev.mvI rfl) ?_
    refine OPS.nil ?_
    first
      | exact ⟨(by repeat (first | exact Agree.refl _ _ | exact Agree.mix _ _ _ | refine Agree.upd rfl ?_ | refine Agree.mix2 rfl ?_)), k - 1, by omega, j + 1, S, c, Lo, by omega, rfl, (by rw [hsu, List.length_append]; rfl), (by rw [hsu, List.length_append, List.map_append]; exact hO), H.drop (List.sublist_append_right [_, _] _)⟩
      | exact ⟨(by repeat (first | exact Agree.refl _ _ | exact Agree.mix _ _ _ | refine Agree.upd rfl ?_ | refine Agree.mix2 rfl ?_)), k - 1, by omega, j + 1, S, c, Lo, by omega, rfl, (by rw [hsu]; rfl), (by rw [hsu]; exact hO), H.drop (List.sublist_cons_self _ _)⟩
  refine WP.exit ?_
  refine XB.hit ?_
  refine WP.seq ?_
  refine WP.region ?_
  refine OPS.val rfl rfl rfl (Ev.mvS rfl) ?_
  refine OPS.val rfl rfl rfl (Ev.asS rfl) ?_
  refine OPS.val rfl rfl rfl (Ev.asI rfl) ?_
  refine OPS.nil ?_
  refine WP.ret ⟨_, rfl, ?_⟩
  have hj : j = fs.length := by simp at hc11; omega
  subst hj
  exact ⟨S, c, Lo, rfl, fun w0 X w H => (hO.ones (R := []) H).1, H⟩
def coverF (c : Pt) (r : Int) (f : Fen) : Bool := decide (discErr f.P.l c r = 0) && coverV f.P.l c r
def touchF (c : Pt) (r : Int) (f : Fen) : Bool := decide (discErr f.P.l c r = 0) && touchV f.P.l c r
theorem fenSure1 (A : Option Addr) (l : List Pt) (cap gp gr : Nat) (c : Pt) (r : Int) (w0 : World) (hz : RowsAt 2 ptCells w0 A l) (hp : cellsAt w0 gp 0 [I c.x, I c.y]) (hr : w0.cell? ⟨gr, 0, none⟩ = some (I r)) :
    Calls Tryz.prog 127 #[.slice A l.length cap, .pointer (some ⟨gp, 0, none⟩), .pointer (some ⟨gr, 0, none⟩)] w0 fun e w' => e = .returned (.bool (decide (discErr l c r = 0) && coverV l c r)) ∧ Below w0.heap.size w0 w' := by
  have H := SH.refl w0
  refine Calls.ofWP Tryz.func127 rfl Tryz.results127 Tryz.ntmps127 rfl ?_
  refine WP.seq ?_
  refine WP.region ?_
  refine OPS.val rfl rfl rfl (Ev.asB rfl) ?_
  refine OPS.nil ?_
  refine WP.seq ?_
  refine WP.region ?_
  refine OPS.val rfl rfl rfl (Ev.mvS rfl) ?_
  refine OPS.val rfl rfl rfl ((by (change Ev _ _ _ _ (Op.load 25 (Operand.tmp 1)) _; exact Ev.loadN [I c.x, I c.y] (agg_run rfl) (size_run rfl) rfl hp))) ?_
  refine OPS.val rfl rfl rfl (Ev.load1 (agg_run rfl) rfl (by exact H.ld0 (by assumption))) ?_
  refine OPS.call (d := some 11) rfl rfl rfl (EvC.func (fun_run rfl)) (geoCovers A l cap c r w0 hz) ?_
  rintro _ w ⟨rfl, hb⟩
  refine ⟨_, rfl, ?_⟩
  replace H := H.toBelow hb; clear hb
  refine OPS.val rfl rfl rfl (Ev.mvT rfl) ?_
  refine OPS.val rfl rfl rfl (Ev.extract rfl rfl) ?_
  refine OPS.val rfl rfl rfl (Ev.extract rfl rfl) ?_
  refine OPS.val rfl rfl rfl (Ev.asB rfl) ?_
  refine OPS.val rfl rfl rfl (Ev.asI rfl) ?_
  refine OPS.nil ?_
  refine WP.seq ?_
  refine WP.region ?_
  refine OPS.val rfl rfl rfl (Ev.mvB rfl) ?_
  refine OPS.val rfl rfl rfl (Ev.asB rfl) ?_
  refine OPS.nil ?_
  refine WP.ret ⟨_, rfl, ?_⟩
  exact ⟨rfl, H.below⟩
theorem fenPoss1 (A : Option Addr) (l : List Pt) (cap gp gr : Nat) (c : Pt) (r : Int) (w0 : World) (hz : RowsAt 2 ptCells w0 A l) (hp : cellsAt w0 gp 0 [I c.x, I c.y]) (hr : w0.cell? ⟨gr, 0, none⟩ = some (I r)) :
    Calls Tryz.prog 125 #[.slice A l.length cap, .pointer (some ⟨gp, 0, none⟩), .pointer (some ⟨gr, 0, none⟩)] w0 fun e w' => e = .returned (.bool (decide (discErr l c r = 0) && touchV l c r)) ∧ Below w0.heap.size w0 w' := by
  have H := SH.refl w0
  refine Calls.ofWP Tryz.func125 rfl Tryz.results125 Tryz.ntmps125 rfl ?_
  refine WP.seq ?_
  refine WP.region ?_
  refine OPS.val rfl rfl rfl (Ev.asB rfl) ?_
  refine OPS.nil ?_
  refine WP.seq ?_
  refine WP.region ?_
  refine OPS.val rfl rfl rfl (Ev.mvS rfl) ?_
  refine OPS.val rfl rfl rfl ((by (change Ev _ _ _ _ (Op.load 25 (Operand.tmp 1)) _; exact Ev.loadN [I c.x, I c.y] (agg_run rfl) (size_run rfl) rfl hp))) ?_
  refine OPS.val rfl rfl rfl (Ev.load1 (agg_run rfl) rfl (by exact H.ld0 (by assumption))) ?_
  refine OPS.call (d := some 11) rfl rfl rfl (EvC.func (fun_run rfl)) (geoTouches A l cap c r w0 hz) ?_
  rintro _ w ⟨rfl, hb⟩
  refine ⟨_, rfl, ?_⟩
  replace H := H.toBelow hb; clear hb
  refine OPS.val rfl rfl rfl (Ev.mvT rfl) ?_
  refine OPS.val rfl rfl rfl (Ev.extract rfl rfl) ?_
  refine OPS.val rfl rfl rfl (Ev.extract rfl rfl) ?_
  refine OPS.val rfl rfl rfl (Ev.asB rfl) ?_
  refine OPS.val rfl rfl rfl (Ev.asI rfl) ?_
  refine OPS.nil ?_
  refine WP.seq ?_
  refine WP.region ?_
  refine OPS.val rfl rfl rfl (Ev.mvB rfl) ?_
  refine OPS.val rfl rfl rfl (Ev.asB rfl) ?_
  refine OPS.nil ?_
  refine WP.ret ⟨_, rfl, ?_⟩
  exact ⟨rfl, H.below⟩
set_option maxRecDepth 20000 in
theorem fenSure (A : Option Addr) (fs : List Fen) (cap : Nat) (n : Int) (p : Pt) (r t : Int) (w0 : World) (hz : FensAt w0 A fs) :
    Calls Tryz.prog 76 #[.slice A fs.length cap, I n, .agg #[I p.x, I p.y], I r, I t] w0 fun e w' => ∃ (S : Option Addr) (c : Nat) (L : List Blk), e = .returned (.tuple #[.slice S (selL fs n p r t (coverF p r)).length c, I (askErr fs n p r t)]) ∧ Reads L (fun w => IntsAt w S (selL fs n p r t (coverF p r))) ∧ SH w0 [] w' L := by
  have H := SH.refl w0
  refine Calls.ofWP Tryz.func76 rfl Tryz.results76 Tryz.ntmps76 rfl ?_
  refine WP.seq ?_
  refine WP.region ?_
  refine OPS.box rfl rfl rfl rfl (cA rfl) H ?_
  clear H; intro g7 w H
  refine OPS.box rfl rfl rfl rfl (cI rfl) H ?_
  clear H; intro g8 w H
  refine OPS.val rfl rfl rfl (Ev.asS rfl) ?_
  refine OPS.val rfl rfl rfl (Ev.asI rfl) ?_
  refine OPS.nil ?_
  refine WP.seq ?_
  refine WP.region ?_
  refine OPS.val rfl rfl rfl (Ev.mvS rfl) ?_
  refine OPS.val rfl rfl rfl (Ev.mvI rfl) ?_
  refine OPS.val rfl rfl rfl ((by exact Ev.loadO 1 H rfl (agg_run rfl) (size_run rfl) (by rfl) rfl)) ?_
  refine OPS.val rfl rfl rfl (Ev.load1 (agg_run rfl) rfl (by exact H.ldL 0 rfl _ rfl)) ?_
  refine OPS.val rfl rfl rfl (Ev.mvI rfl) ?_
  refine OPS.val rfl rfl rfl (Ev.makeFunc) ?_
  refine OPS.call (d := some 18) rfl rfl rfl (EvC.func (fun_run rfl)) (fenChosen A fs cap n p r t 127 [.pointer (some ⟨g7, 0, none⟩), .pointer (some ⟨g8, 0, none⟩)] (coverF p r) w rfl (hz.sh H) (fun _ f hf w' hb => fenSure1 f.P.A f.P.l f.P.cap g7 g8 p r w' (((hz.sh H).each f hf).pts.below hb) (cellsAt_below hb (cellsAt_own H 1 rfl [I p.x, I p.y] 0 (by intro j hj; match j, hj with | 0, _ => rfl | 1, _ => rfl))) (cell_below hb (H.ldL 0 rfl 0 rfl)))) ?_
  rintro _ w ⟨S, c, L, rfl, hR, Hc⟩
  refine ⟨_, rfl, ?_⟩
  replace H := SH.call (Lv := []) (by rw [List.append_nil]; exact H) Hc
  clear Hc
  refine OPS.val rfl rfl rfl (Ev.extract rfl rfl) ?_
  refine OPS.val rfl rfl rfl (Ev.extract rfl rfl) ?_
  refine OPS.val rfl rfl rfl (Ev.asS rfl) ?_
  refine OPS.val rfl rfl rfl (Ev.asI rfl) ?_
  refine OPS.nil ?_
  refine WP.ret ⟨_, rfl, ?_⟩
  exact ⟨S, c, L, rfl, hR, H.drop (List.sublist_append_right _ _)⟩
set_option maxRecDepth 20000 in
theorem fenPossible (A : Option Addr) (fs : List Fen) (cap : Nat) (n : Int) (p : Pt) (r t : Int) (w0 : World) (hz : FensAt w0 A fs) :
    Calls Tryz.prog 75 #[.slice A fs.length cap, I n, .agg #[I p.x, I p.y], I r, I t] w0 fun e w' => ∃ (S : Option Addr) (c : Nat) (L : List Blk), e = .returned (.tuple #[.slice S (selL fs n p r t (touchF p r)).length c, I (askErr fs n p r t)]) ∧ Reads L (fun w => IntsAt w S (selL fs n p r t (touchF p r))) ∧ SH w0 [] w' L := by
  have H := SH.refl w0
  refine Calls.ofWP Tryz.func75 rfl Tryz.results75 Tryz.ntmps75 rfl ?_
  refine WP.seq ?_
  refine WP.region ?_
  refine OPS.box rfl rfl rfl rfl (cA rfl) H ?_
  clear H; intro g7 w H
  refine OPS.box rfl rfl rfl rfl (cI rfl) H ?_
  clear H; intro g8 w H
  refine OPS.val rfl rfl rfl (Ev.asS rfl) ?_
  refine OPS.val rfl rfl rfl (Ev.asI rfl) ?_
  refine OPS.nil ?_
  refine WP.seq ?_
  refine WP.region ?_
  refine OPS.val rfl rfl rfl (Ev.mvS rfl) ?_
  refine OPS.val rfl rfl rfl (Ev.mvI rfl) ?_
  refine OPS.val rfl rfl rfl ((by exact Ev.loadO 1 H rfl (agg_run rfl) (size_run rfl) (by rfl) rfl)) ?_
  refine OPS.val rfl rfl rfl (Ev.load1 (agg_run rfl) rfl (by exact H.ldL 0 rfl _ rfl)) ?_
  refine OPS.val rfl rfl rfl (Ev.mvI rfl) ?_
  refine OPS.val rfl rfl rfl (Ev.makeFunc) ?_
  refine OPS.call (d := some 18) rfl rfl rfl (EvC.func (fun_run rfl)) (fenChosen A fs cap n p r t 125 [.pointer (some ⟨g7, 0, none⟩), .pointer (some ⟨g8, 0, none⟩)] (touchF p r) w rfl (hz.sh H) (fun _ f hf w' hb => fenPoss1 f.P.A f.P.l f.P.cap g7 g8 p r w' (((hz.sh H).each f hf).pts.below hb) (cellsAt_below hb (cellsAt_own H 1 rfl [I p.x, I p.y] 0 (by intro j hj; match j, hj with | 0, _ => rfl | 1, _ => rfl))) (cell_below hb (H.ldL 0 rfl 0 rfl)))) ?_
  rintro _ w ⟨S, c, L, rfl, hR, Hc⟩
  refine ⟨_, rfl, ?_⟩
  replace H := SH.call (Lv := []) (by rw [List.append_nil]; exact H) Hc
  clear Hc
  refine OPS.val rfl rfl rfl (Ev.extract rfl rfl) ?_
  refine OPS.val rfl rfl rfl (Ev.extract rfl rfl) ?_
  refine OPS.val rfl rfl rfl (Ev.asS rfl) ?_
  refine OPS.val rfl rfl rfl (Ev.asI rfl) ?_
  refine OPS.nil ?_
  refine WP.ret ⟨_, rfl, ?_⟩
  exact ⟨S, c, L, rfl, hR, H.drop (List.sublist_append_right _ _)⟩
end Go.Proofs.YtjgdklhbegplfaaGreat

/-
  A slice made with room; append to a slice that is nil, with what the new world keeps.
-/
set_option linter.all false
namespace Go.W
open Go.RowKit
section
variable {P : Program} {N : Nat} {ops : Array Oper} {K : Env → World → Prop} {e : Env} {w w0 : World} {S : List Nat} {L : List Blk} {rest : List Oper} {o : Oper} {t : TypeId} {x y : Operand} {zs : List Value}
theorem run_makeSlice_cap {el sz bt : Nat} {zs : List Value} (hf : SlFact P t el sz bt zs) (n m : Nat) (hnm : n ≤ m) (k k' : IntKind) (hb : bt * m ≤ 140737488355328) (hm : m ≤ 9223372036854775807) (w : World) :
    (Instr.makeSlice t (.int k (n : Int)) (.int k' (m : Int))).run P w = .ok (.slice (some ⟨w.heap.size, 0, none⟩) n m) (w.alloc (.cells (mkL m zs).toArray el)) := by
  obtain ⟨i, z, h1, h2, h3, h4, h5⟩ := hf.info
  have hw : IntKind.i64.wrap (m : Int) = m := IntWalk.i64_in _ ⟨by omega, by omega⟩
  have hw2 : IntKind.i64.wrap (n : Int) = n := IntWalk.i64_in _ ⟨by omega, by omega⟩
  have ht : (typeInfo el).run P w = .ok i w := by unfold typeInfo program; simp only [Sem.run_bind, Sem.run, Result.andThen_ok, h1, Sem.run_pure]
  have hs : (Go.sizeOf el).run P w = .ok sz w := by unfold Go.sizeOf; simp only [Sem.run_bind, ht, Result.andThen_ok, h3, Sem.run_pure]
  have hz : (zeroValue el).run P w = .ok z w := by unfold zeroValue; simp only [Sem.run_bind, ht, Result.andThen_ok, h2, Sem.run_pure]
  have c1 : ((bt : Int) * (m : Int) > 2 ^ 48) = False := by
    have : ((bt * m : Nat) : Int) ≤ 140737488355328 := Int.ofNat_le.2 hb
    rw [Int.natCast_mul] at this
    refine eq_false fun h => ?_
    have h : (2:Int) ^ 48 < (bt : Int) * (m : Int) := h
    have : (2:Int) ^ 48 = 281474976710656 := by decide
    omega
  have c2 : ((m : Int) < 0) = False := by simp
  have c3 : ((n : Int) < 0) = False := by simp
  have c4 : ((m : Int) < (n : Int)) = False := by simp; omega
  have e1 : (Array.map (fun i => (z.cells)[i % z.cells.size]!) (Array.range (m * sz))) = (mkL m zs).toArray := by
    rw [h5, ← hf.len]; exact mkCells m (by rw [hf.len]; exact hf.pos)
  simp only [Instr.makeSlice, Sem.run_bind, run_underlying hf.und, Result.andThen_ok, asInt, asIntOf, Sem.run_pure, ht, h4, hw, hw2, c1, c2, c3]
  simp only [decide_false, Bool.or_false, Int.lt_irrefl, gt_iff_lt, Bool.false_eq_true, if_false, askRoom, c4]
  split <;> simp only [mark, Sem.run_pure, Sem.run, Result.andThen_ok, hs, Int.toNat_natCast, Sem.run_bind]
  all_goals
    by_cases hn : m * sz = 0
    · have hm0 : m = 0 := by
        rcases Nat.mul_eq_zero.1 hn with h | h
        · exact h
        · have := hf.pos; omega
      subst hm0
      simp [newRow, newObj, Sem.run, mkL]
      congr 2
      apply Array.ext_getElem?; intro i; simp
    · simp [hn, hz, newRow, newObj, Sem.run, e1]
theorem OPS.makeCap {d el sz bt : Nat} (n m : Nat) {i j : Int} {k k' : IntKind} {zs : List Value} (hg : o.guard = none) (hd : o.dst = some d) (hN : Nat.blt d N = true) (hop : o.op = .makeSlice t x y) (hf : SlFact P t el sz bt zs)
    (hx : ev e x = .int k i) (hy : ev e y = .int k' j) (hi : i = (n : Int)) (hj : j = (m : Int)) (hnm : n ≤ m) (hb : bt * m ≤ 140737488355328) (hm : m ≤ 9223372036854775807) (H : SH w0 S w L)
    (h : ∀ g w', Below w.heap.size w w' → SH w0 S w' (⟨g, el, mkL m zs⟩ :: L) → OPS P N .plain ops K rest (upd e d (.slice (some ⟨g, 0, none⟩) n m)) w') : OPS P N .plain ops K (o :: rest) e w := by
  subst hi hj
  refine OPS.act (v := .slice (some ⟨w.heap.size, 0, none⟩) n m) (w' := w.alloc (.cells (mkL m zs).toArray el)) hg hd hN ?_ (h _ _ ((Below.refl _ _).alloc (Nat.le_refl _) _) (H.alloc _ _))
  unfold execOp; rw [hop]
  simp only [hx, hy, Sem.run_bind, run_makeSlice_cap hf n m hnm k k' hb hm w, Result.andThen_ok, Sem.run_pure]
theorem OwnS.win {A : Option Addr} {cap n el sz : Nat} {v : Value} {l : List Value} {R Lo : List Blk} (h : OwnS A cap n (v :: l) el sz Lo) (H : SH w0 S w (R ++ Lo)) : ∃ g, A = some ⟨g, 0, none⟩ ∧ cellsAt w g 0 (v :: l) := by
  rcases h.form with ⟨_, h1, _⟩ | ⟨g, post, rfl, rfl, _⟩
  · have := h.len; subst h1; simp at this
  · refine ⟨g, rfl, ?_⟩
    have hm := H.own ⟨g, el, (v :: l) ++ post⟩ (by simp)
    refine cellsAt_of _ _ fun j hj => ?_
    have hj2 : ((v :: l) ++ post)[j]? = some (v :: l)[j] := by rw [List.getElem?_append_left hj, List.getElem?_eq_getElem hj]
    simp only [World.cell?, hm, Nat.zero_add]
    simpa using hj2
/-- append to nil: a new block, and nothing else changes -/
theorem OPS.appendNil {d el sz bt m cx : Nat} {ty2 : Array TypeId} {Ax : Option Addr} {v : Value} {l : List Value} (hg : o.guard = none) (hd : o.dst = some d) (hN : Nat.blt d N = true)
    (hop : o.op = .call { callee := .builtin .append, args := #[x, y], argTypes := ty2 }) (hty : ty2 = #[t, t]) (hf : SlFact P t el sz bt zs)
    (hx : ev e x = .slice none 0 0) (hy : ev e y = .slice Ax m cx) (hl : (v :: l).length = m * sz) (hs : ∃ b o, Ax = some ⟨b, o, none⟩ ∧ cellsAt w b o (v :: l)) (h1 : ((v :: l).all (·.oneCell')) = true)
    (hbd : m * bt ≤ 140737488355328) (hbd2 : m ≤ maxLen)
    (h : ∀ g c w', Below w.heap.size w w' → cellsAt w' g 0 (v :: l) → OPS P N .plain ops K rest (upd e d (.slice (some ⟨g, 0, none⟩) m c)) w') : OPS P N .plain ops K (o :: rest) e w := by
  refine OPS.append (w0 := w) (S := []) (L := []) (R := []) (m := m) (news := v :: l) hg hd hN hop hty hf hx hy OwnS.nil hl hs h1 (by simpa using hbd) (by simpa using hbd2) (SH.refl w) (List.Perm.refl _) ?_
  intro A c Lo w' hO H
  simp only [Nat.zero_add, List.nil_append] at hO
  obtain ⟨g, rfl, hc⟩ := OwnS.win (R := []) hO H
  rw [Nat.zero_add]
  exact h g c w' H.below hc
end
end Go.W

/-
  Maps that the call makes itself: what a block that is a map holds, as a list of pairs with keys that differ.
-/
set_option linter.all false
namespace Go.W
open Go.RowKit
open Go.MapKept (Stamped stamped_iff stamped_empty stamped_push stamped_modify stamped_erase)
open Go.ChangeMaps (setBlock modify_eq_set)
open Go.Maps (Keyed)

/-- block g of w is a map (keys of type k) with just the pairs m -/
structure MapAt (P : Program) (k : TypeId) (w : World) (g : Nat) (m : List (Value × Value)) : Prop where
  ex : ∃ (es : Array MapEntry) (clock : Nat), w.heap[g]? = some (.map es clock) ∧ Stamped es clock ∧ (∀ x ∈ es.toList, ∃ l, keyOf P k x.key = some l) ∧ es.toList.map (fun x => (x.key, x.val)) = m
section
variable {P : Program} {k t el : TypeId} {w w' w0 : World} {S : List Nat} {L : List Blk} {g : Nat} {m : List (Value × Value)}
theorem MapAt.lt (h : MapAt P k w g m) : g < w.heap.size := by
  obtain ⟨es, c, hb, _⟩ := h.ex
  exact (Array.getElem?_eq_some_iff.1 hb).1
theorem MapAt.keep (h : MapAt P k w g m) (he : w'.heap[g]? = w.heap[g]?) : MapAt P k w' g m := by
  obtain ⟨es, c, hb, h2⟩ := h.ex
  exact ⟨es, c, he.trans hb, h2⟩
theorem MapAt.below (h : MapAt P k w g m) (hb : Below w.heap.size w w') : MapAt P k w' g m := h.keep (hb.block g h.lt)
theorem MapAt.sh (h : MapAt P k w0 g m) (H : SH w0 S w L) (hS : g ∉ S) : MapAt P k w g m := h.keep (H.low g h.lt hS)
theorem MapAt.ne (h : MapAt P k w g m) (H : SH w0 S w L) {b : Blk} (hb : b ∈ L) : g ≠ b.g := by
  rintro rfl
  obtain ⟨es, c, h1, _⟩ := h.ex
  rw [H.own b hb] at h1; cases h1
theorem MapAt.notMem (h : MapAt P k w g m) (H : SH w0 S w L) : g ∉ L.map (·.g) := fun hm => by
  obtain ⟨b, hb, he⟩ := List.mem_map.1 hm
  exact h.ne H hb he.symm
theorem MapAt.setCell (h : MapAt P k w g m) (H : SH w0 S w L) {b : Blk} (hb : b ∈ L) (j : Nat) (v : Value) : MapAt P k (w.setCell ⟨b.g, j, none⟩ v) g m :=
  h.keep (Below.heap_setCell _ _ _ g (h.ne H hb))
theorem MapAt.alloc (h : MapAt P k w g m) (o : Obj) : MapAt P k (w.alloc o) g m := h.keep (Below.heap_alloc w _ g h.lt)
theorem MapAt.made : MapAt P k (w.alloc (.map #[] 0)) w.heap.size [] := ⟨#[], 0, by show (w.heap.push _)[w.heap.size]? = _; simp, stamped_empty 0, by simp, rfl⟩
theorem MapAt.nodup (h : MapAt P k w g m) : m.Pairwise fun p q => p.1 ≠ q.1 := by
  obtain ⟨es, c, _, h2, _, rfl⟩ := h.ex
  rw [List.pairwise_map]
  exact ((stamped_iff es c).1 h2).2.2
theorem MapAt.uniq (h : MapAt P k w g m) {a x y : Value} (hx : (a, x) ∈ m) (hy : (a, y) ∈ m) : x = y := by
  have hn := h.nodup
  clear h
  induction m with
  | nil => cases hx
  | cons p m ih =>
    rw [List.pairwise_cons] at hn
    rcases List.mem_cons.1 hx with rfl | hx'
    · rcases List.mem_cons.1 hy with h | hy'
      · cases h; rfl
      · exact absurd rfl (hn.1 (a, y) hy')
    · rcases List.mem_cons.1 hy with rfl | hy'
      · exact absurd rfl (hn.1 (a, x) hx')
      · exact ih hx' hy' hn.2
theorem SH.newMap (H : SH w0 S w L) : SH w0 S (w.alloc (.map #[] 0)) L where
  os := H.os
  tape := H.tape
  output := H.output
  size := by
    show w0.heap.size ≤ (w.heap.push _).size
    rw [Array.size_push]; have := H.size; omega
  low j hj hS := (Below.heap_alloc w _ j (Nat.lt_of_lt_of_le hj H.size)).trans (H.low j hj hS)
  own b hm := (Below.heap_alloc w _ b.g (H.lt hm)).trans (H.own b hm)
  may := H.may
  nodup := H.nodup
theorem heap_setB (w : World) (g : Nat) (o : Obj) {j : Nat} (h : j ≠ g) : (setBlock w g o).heap[j]? = w.heap[j]? := by
  unfold setBlock
  exact Array.getElem?_setIfInBounds_ne (Ne.symm h)
theorem SH.setB (H : SH w0 S w L) (o : Obj) (hg : g ∉ L.map (·.g)) (hm : g ∈ S ∨ w0.heap.size ≤ g) : SH w0 S (setBlock w g o) L where
  os := H.os
  tape := H.tape
  output := H.output
  size := by simpa [setBlock] using H.size
  low j hj hS := by
    rw [heap_setB w g o (fun he => by subst he; rcases hm with h | h; exact hS h; omega)]
    exact H.low j hj hS
  own b hb := by
    rw [heap_setB w g o (fun he => hg (he ▸ List.mem_map_of_mem hb))]
    exact H.own b hb
  may := H.may
  nodup := H.nodup
theorem SH.weak {S' : List Nat} (H : SH w0 S w L) (h : ∀ g ∈ S, g ∈ S') : SH w0 S' w L :=
  ⟨H.os, H.tape, H.output, H.size, fun k hk hS => H.low k hk fun hm => hS (h k hm), H.own, fun b hb => (H.may b hb).imp id (h _), H.nodup⟩
/-- a stretch with a base of its own (in which blocks S of the base may change), seen from the former base -/
theorem SH.back {wB : World} {S0 : List Nat} {L0 : List Blk} (H0 : SH w0 S0 wB L0) (H : SH wB S w L) (hS : ∀ g ∈ S, (w0.heap.size ≤ g ∨ g ∈ S0) ∧ g ∉ L0.map (·.g)) : SH w0 S0 w (L ++ L0) where
  os := H.os.trans H0.os
  tape := H.tape.trans H0.tape
  output := H.output.trans H0.output
  size := Nat.le_trans H0.size H.size
  low j hj hn := by
    rw [H.low j (Nat.lt_of_lt_of_le hj H0.size) fun hm => ?_]
    · exact H0.low j hj hn
    · rcases (hS j hm).1 with h | h
      · omega
      · exact hn h
  own b hb := by
    rcases List.mem_append.1 hb with hb | hb
    · exact H.own b hb
    · rw [H.low b.g (H0.lt hb) fun hm => (hS b.g hm).2 (List.mem_map_of_mem hb)]
      exact H0.own b hb
  may b hb := by
    rcases List.mem_append.1 hb with hb | hb
    · rcases H.may b hb with h | h
      · exact .inl (Nat.le_trans H0.size h)
      · exact (hS _ h).1
    · exact H0.may b hb
  nodup := by
    rw [List.map_append, List.nodup_append]
    refine ⟨H.nodup, H0.nodup, fun x hx y hy he => ?_⟩
    subst he
    obtain ⟨b, hb, rfl⟩ := List.mem_map.1 hx
    rcases H.may b hb with h | h
    · obtain ⟨c, hc, he⟩ := List.mem_map.1 hy
      have := H0.lt hc; omega
    · exact (hS _ h).2 hy
/-- 'm[key]' (c: with 'ok') -/
theorem MapAt.look (h : MapAt P k w g m) (K : Keyed P k) (ht : P.underlying t = some (.map k el)) {z : Value} (hz : (zeroValue el).run P w = .ok z w) {key : Value} {kl : Lit} (hkey : keyOf P k key = some kl) (c : Bool) :
    ((∀ p ∈ m, p.1 ≠ key) ∧ (Instr.lookup t (.map (some g)) key c).run P w = .ok (if c then .tuple #[z, .bool false] else z) w) ∨
    ∃ v, (key, v) ∈ m ∧ (Instr.lookup t (.map (some g)) key c).run P w = .ok (if c then .tuple #[v, .bool true] else v) w := by
  obtain ⟨es, cl, hb, h2, h3, rfl⟩ := h.ex
  rcases K.find w hkey es.toList h3 with ⟨h4, h5⟩ | ⟨j, e0, h4, h5, h6⟩
  · refine .inl ⟨fun p hp => ?_, by simp [Instr.lookup, run_underlying ht, MapKept.run_getObj_map hb, K.check w _ hkey, h4, hz, Result.andThen]⟩
    obtain ⟨x, hx, rfl⟩ := List.mem_map.1 hp
    exact h5 x hx
  · refine .inr ⟨e0.val, ?_, by simp [Instr.lookup, run_underlying ht, MapKept.run_getObj_map hb, K.check w _ hkey, h4, Result.andThen]⟩
    rw [← h6]
    exact List.mem_map.2 ⟨e0, List.mem_of_getElem? h5, rfl⟩
/-- 'm[key] = val' -/
theorem MapAt.put (h : MapAt P k w g m) (K : Keyed P k) (ht : P.underlying t = some (.map k el)) {key val : Value} {kl : Lit} (hkey : keyOf P k key = some kl) :
    ∃ o m', (Instr.mapUpdate t (.map (some g)) key val).run P w = .ok () (setBlock w g o) ∧ MapAt P k (setBlock w g o) g m' ∧ (∀ p, p ∈ m' ↔ p = (key, val) ∨ (p ∈ m ∧ p.1 ≠ key)) ∧
      ((∀ p ∈ m, p.1 ≠ key) → m' = m ++ [(key, val)]) := by
  obtain ⟨es, cl, hb, h2, h3, rfl⟩ := h.ex
  have hlt : g < w.heap.size := h.lt
  have hset : ∀ o, (setBlock w g o).heap[g]? = some o := fun o => by simp [setBlock, hlt]
  rcases K.find w hkey es.toList h3 with ⟨h4, h5⟩ | ⟨j, e0, h4, h5, h6⟩
  · refine ⟨.map (es.push ⟨key, val, cl⟩) (cl + 1), (es.toList.map fun x => (x.key, x.val)) ++ [(key, val)], ?_, ⟨_, _, hset _, stamped_push h2 h5, ?_, by simp⟩, fun p => ?_, fun _ => rfl⟩
    · simp [Instr.mapUpdate, run_underlying ht, MapKept.run_getObj_map hb, K.check w false hkey, h4, MapKept.run_setObj_map _ hb, Result.andThen, setBlock]
    · intro x hx
      simp only [Array.toList_push, List.mem_append, List.mem_singleton] at hx
      rcases hx with hx | rfl
      · exact h3 x hx
      · exact ⟨_, hkey⟩
    · rw [List.mem_append, List.mem_singleton]
      constructor
      · rintro (h | h)
        · obtain ⟨x, hx, rfl⟩ := List.mem_map.1 h
          exact .inr ⟨h, h5 x hx⟩
        · exact .inl h
      · rintro (h | h)
        · exact .inr h
        · exact .inl h.1
  · have hj : es[j]? = some e0 := by simpa using h5
    have hjl : j < es.toList.length := (List.getElem?_eq_some_iff.1 h5).1
    have hkeyf : ∀ e', es[j]? = some e' → ({ e' with key := key, val := val } : MapEntry).key = e'.key := fun e' he' => by rw [hj] at he'; cases he'; exact h6.symm
    have hlist : (es.modify j (fun e' => { e' with key := key, val := val })).toList = es.toList.set j { e0 with key := key, val := val } := by rw [Array.toList_modify, modify_eq_set _ _ _ _ h5]
    have hn : es.toList.Pairwise (fun x y => x.key ≠ y.key) := ((stamped_iff es cl).1 h2).2.2
    have hother : ∀ i x, es.toList[i]? = some x → i ≠ j → x.key ≠ key := fun i x hi hne he => by
      rw [List.pairwise_iff_getElem] at hn
      obtain ⟨a1, a2⟩ := List.getElem?_eq_some_iff.1 hi
      obtain ⟨b1, b2⟩ := List.getElem?_eq_some_iff.1 h5
      rcases Nat.lt_or_gt_of_ne hne with hlt | hgt
      · exact hn i j a1 b1 hlt (by rw [a2, b2, he, h6])
      · exact hn j i b1 a1 hgt (by rw [a2, b2, he, h6])
    have hmem : ∀ x, x ∈ es.toList.set j { e0 with key := key, val := val } ↔ x = { e0 with key := key, val := val } ∨ (x ∈ es.toList ∧ x.key ≠ key) := by
      intro x
      constructor
      · intro hx
        obtain ⟨i, hi⟩ := List.mem_iff_getElem?.1 hx
        by_cases hne : j = i
        · subst hne
          rw [List.getElem?_set_self hjl] at hi
          exact .inl (Option.some.inj hi).symm
        · rw [List.getElem?_set_ne hne] at hi
          exact .inr ⟨List.mem_of_getElem? hi, hother i x hi (Ne.symm hne)⟩
      · rintro (rfl | ⟨hx, hk⟩)
        · exact List.mem_iff_getElem?.2 ⟨j, by rw [List.getElem?_set_self hjl]⟩
        · obtain ⟨i, hi⟩ := List.mem_iff_getElem?.1 hx
          have hne : j ≠ i := fun he => by subst he; rw [h5] at hi; cases hi; exact hk h6
          exact List.mem_iff_getElem?.2 ⟨i, by rw [List.getElem?_set_ne hne]; exact hi⟩
    refine ⟨.map (es.modify j fun e' => { e' with key := key, val := val }) cl, (es.modify j fun e' => { e' with key := key, val := val }).toList.map fun x => (x.key, x.val), ?_, ⟨_, _, hset _, stamped_modify h2 _ _ (fun _ _ => rfl) (fun e' _ he' => hkeyf e' he'), ?_, rfl⟩, fun p => ?_, fun hno => ?_⟩
    · simp [Instr.mapUpdate, run_underlying ht, MapKept.run_getObj_map hb, K.check w false hkey, h4, hj, h6, K.stays w hkey, MapKept.run_setObj_map _ hb, Result.andThen, setBlock]
    · intro x hx
      rw [hlist, hmem] at hx
      rcases hx with rfl | ⟨hx, _⟩
      · exact ⟨_, hkey⟩
      · exact h3 x hx
    · rw [hlist]
      constructor
      · intro hp
        obtain ⟨x, hx, rfl⟩ := List.mem_map.1 hp
        rcases (hmem x).1 hx with rfl | ⟨hx, hk⟩
        · exact .inl rfl
        · exact .inr ⟨List.mem_map.2 ⟨x, hx, rfl⟩, hk⟩
      · rintro (rfl | ⟨hp, hk⟩)
        · exact List.mem_map.2 ⟨_, (hmem _).2 (.inl rfl), rfl⟩
        · obtain ⟨x, hx, rfl⟩ := List.mem_map.1 hp
          exact List.mem_map.2 ⟨x, (hmem x).2 (.inr ⟨hx, hk⟩), rfl⟩
    · exact absurd h6 (hno (e0.key, e0.val) (List.mem_map.2 ⟨e0, List.mem_of_getElem? h5, rfl⟩))
/-- 'delete(m, key)' -/
theorem MapAt.del {ty : TypeId} (h : MapAt P k w g m) (K : Keyed P k) (ht : P.underlying t = some (.map k el)) {key : Value} {kl : Lit} (hkey : keyOf P k key = some kl) :
    ∃ o m', (Builtin.delete_ #[t, k] ty #[.map (some g), key]).run P w = .ok (.tuple #[]) (setBlock w g o) ∧ MapAt P k (setBlock w g o) g m' ∧ (∀ p, p ∈ m' ↔ p ∈ m ∧ p.1 ≠ key) := by
  obtain ⟨es, cl, hb, h2, h3, rfl⟩ := h.ex
  have hlt : g < w.heap.size := h.lt
  have hset : ∀ o, (setBlock w g o).heap[g]? = some o := fun o => by simp [setBlock, hlt]
  rcases K.find w hkey es.toList h3 with ⟨h4, h5⟩ | ⟨j, e0, h4, h5, h6⟩
  · refine ⟨.map es cl, es.toList.map fun x => (x.key, x.val), ?_, ⟨_, _, hset _, h2, h3, rfl⟩, fun p => ?_⟩
    · simp [Builtin.delete_, run_underlying ht, MapKept.run_getObj_map hb, K.check w _ hkey, h4, MapKept.run_setObj_map _ hb, Result.andThen, setBlock]
    · constructor
      · intro hp
        obtain ⟨x, hx, rfl⟩ := List.mem_map.1 hp
        exact ⟨hp, h5 x hx⟩
      · exact fun hp => hp.1
  · have hjl : j < es.toList.length := (List.getElem?_eq_some_iff.1 h5).1
    have hjs : j < es.size := by simpa using hjl
    have hsub : (es.eraseIdxIfInBounds j).toList = es.toList.eraseIdx j := by
      unfold Array.eraseIdxIfInBounds
      rw [dif_pos hjs]
      simp
    have hn : es.toList.Pairwise (fun x y => x.key ≠ y.key) := ((stamped_iff es cl).1 h2).2.2
    refine ⟨.map (es.eraseIdxIfInBounds j) cl, (es.eraseIdxIfInBounds j).toList.map fun x => (x.key, x.val), ?_, ⟨_, _, hset _, stamped_erase h2 j, ?_, rfl⟩, fun p => ?_⟩
    · simp [Builtin.delete_, run_underlying ht, MapKept.run_getObj_map hb, K.check w _ hkey, h4, MapKept.run_setObj_map _ hb, Result.andThen, setBlock]
    · intro x hx
      rw [hsub] at hx
      exact h3 x ((List.eraseIdx_sublist _ _).subset hx)
    · rw [hsub]
      constructor
      · intro hp
        obtain ⟨x, hx, rfl⟩ := List.mem_map.1 hp
        obtain ⟨i, hne, hi⟩ := List.mem_eraseIdx_iff_getElem?.1 hx
        refine ⟨List.mem_map.2 ⟨x, List.mem_of_getElem? hi, rfl⟩, fun he => ?_⟩
        rw [List.pairwise_iff_getElem] at hn
        obtain ⟨a1, a2⟩ := List.getElem?_eq_some_iff.1 hi
        obtain ⟨b1, b2⟩ := List.getElem?_eq_some_iff.1 h5
        have he : x.key = key := he
        rcases Nat.lt_or_gt_of_ne hne with hlt | hgt
        · exact hn i j a1 b1 hlt (by rw [a2, b2, he, h6])
        · exact hn j i b1 a1 hgt (by rw [a2, b2, he, h6])
      · rintro ⟨hp, hk⟩
        obtain ⟨x, hx, rfl⟩ := List.mem_map.1 hp
        obtain ⟨i, hi⟩ := List.mem_iff_getElem?.1 hx
        refine List.mem_map.2 ⟨x, List.mem_eraseIdx_iff_getElem?.2 ⟨i, fun he => ?_, hi⟩, rfl⟩
        subst he
        rw [h5] at hi
        cases hi
        exact hk h6
end
section
variable {P : Program} {N : Nat} {ops : Array Oper} {K : Env → World → Prop} {e : Env} {w w0 : World} {S : List Nat} {L : List Blk} {rest : List Oper} {o : Oper} {k t el ty : TypeId} {g : Nat} {m : List (Value × Value)} {x ix y : Operand} {key val z : Value} {kl : Lit}
theorem Ev.lookNo {c : Bool} (h : MapAt P k w g m) (hno : ∀ p ∈ m, p.1 ≠ key) (KY : Keyed P k) (ht : P.underlying t = some (.map k el)) (hz : ∀ w, (zeroValue el).run P w = .ok z w) (hkey : keyOf P k key = some kl)
    (hx : ev e x = .map (some g)) (hi : ev e ix = key) : Ev P e w ty (.lookup t x ix c) (if c then .tuple #[z, .bool false] else z) := ⟨fun w' hb o ho _ => by
  unfold execOp; rw [ho]
  simp only [hx, hi]
  rcases (h.below hb).look KY ht (hz w') hkey c with ⟨_, h2⟩ | ⟨v, h1, _⟩
  · simp only [Sem.run_bind, h2, Result.andThen_ok]; rfl
  · exact absurd rfl (hno _ h1)⟩
theorem Ev.lookYes {c : Bool} (h : MapAt P k w g m) (hin : (key, val) ∈ m) (KY : Keyed P k) (ht : P.underlying t = some (.map k el)) (hz : ∀ w, (zeroValue el).run P w = .ok z w) (hkey : keyOf P k key = some kl)
    (hx : ev e x = .map (some g)) (hi : ev e ix = key) : Ev P e w ty (.lookup t x ix c) (if c then .tuple #[val, .bool true] else val) := ⟨fun w' hb o ho _ => by
  unfold execOp; rw [ho]
  simp only [hx, hi]
  rcases (h.below hb).look KY ht (hz w') hkey c with ⟨h1, _⟩ | ⟨v, h1, h2⟩
  · exact absurd rfl (h1 _ hin)
  · cases h.uniq hin h1
    simp only [Sem.run_bind, h2, Result.andThen_ok]; rfl⟩
theorem OPS.mkMap {d : Nat} (k : TypeId) (hop : o.op = .makeMap t none) (hg : o.guard = none) (hd : o.dst = some d) (hN : Nat.blt d N = true) (H : SH w0 S w L)
    (h : ∀ w' gm, w0.heap.size ≤ gm → Below w.heap.size w w' → SH w0 S w' L → MapAt P k w' gm [] → OPS P N .plain ops K rest (upd e d (.map (some gm))) w') : OPS P N .plain ops K (o :: rest) e w :=
  OPS.act (w' := w.alloc (.map #[] 0)) hg hd hN (by unfold execOp; rw [hop]; rfl) (h _ _ H.size ((Below.refl _ _).alloc (Nat.le_refl _) _) H.newMap MapAt.made)
theorem Ev.look0 (h : MapAt P k w g m) (hno : ∀ p ∈ m, p.1 ≠ key) (KY : Keyed P k) (ht : P.underlying t = some (.map k el)) (hz : ∀ w, (zeroValue el).run P w = .ok z w) (hkey : keyOf P k key = some kl)
    (hx : ev e x = .map (some g)) (hi : ev e ix = key) : Ev P e w ty (.lookup t x ix false) z := Ev.lookNo (c := false) h hno KY ht hz hkey hx hi
theorem Ev.look1 (h : MapAt P k w g m) (hin : (key, val) ∈ m) (KY : Keyed P k) (ht : P.underlying t = some (.map k el)) (hz : ∀ w, (zeroValue el).run P w = .ok z w) (hkey : keyOf P k key = some kl)
    (hx : ev e x = .map (some g)) (hi : ev e ix = key) : Ev P e w ty (.lookup t x ix false) val := Ev.lookYes (c := false) h hin KY ht hz hkey hx hi
theorem OPS.putMap (hop : o.op = .mapUpdate t x ix y) (hg : o.guard = none) (hd : o.dst = none) (M : MapAt P k w g m) (KY : Keyed P k) (ht : P.underlying t = some (.map k el)) (hkey : keyOf P k key = some kl)
    (hx : ev e x = .map (some g)) (hi : ev e ix = key) (hy : ev e y = val) (H : SH w0 S w L) (hm : g ∈ S ∨ w0.heap.size ≤ g)
    (h : ∀ w' m', SH w0 S w' L → MapAt P k w' g m' → (∀ j, j ≠ g → w'.heap[j]? = w.heap[j]?) → (∀ p, p ∈ m' ↔ p = (key, val) ∨ (p ∈ m ∧ p.1 ≠ key)) → ((∀ p ∈ m, p.1 ≠ key) → m' = m ++ [(key, val)]) → OPS P N .plain ops K rest e w') :
    OPS P N .plain ops K (o :: rest) e w := by
  obtain ⟨ob, m', h1, h2, h3, h4⟩ := M.put KY ht hkey (val := val)
  refine OPS.actn (w' := setBlock w g ob) hg hd ?_ (h _ m' (H.setB ob (M.notMem H) hm) h2 (fun j hj => heap_setB w g ob hj) h3 h4)
  unfold execOp; rw [hop]; simp only [hx, hi, hy, Sem.run_bind, h1, Result.andThen_ok]; rfl
end
section
variable {P : Program} {N : Nat} {ops : Array Oper} {K : Env → World → Prop} {e : Env} {w w0 : World} {S : List Nat} {L : List Blk} {rest : List Oper} {o : Oper} {k t el ty : TypeId} {g : Nat} {m : List (Value × Value)} {x ix y : Operand} {key val z : Value} {kl : Lit}
/-- an entry of the map was made at the stamp st -/
structure StampAt (w : World) (g st : Nat) : Prop where
  ex : ∃ (es : Array MapEntry) (clock : Nat), w.heap[g]? = some (.map es clock) ∧ ∃ x ∈ es.toList, x.born = st
theorem StampAt.keep {w' : World} {st : Nat} (h : StampAt w g st) (he : w'.heap[g]? = w.heap[g]?) : StampAt w' g st := by
  obtain ⟨es, c, hb, h2⟩ := h.ex
  exact ⟨es, c, he.trans hb, h2⟩
theorem StampAt.lt {st : Nat} (h : StampAt w g st) : g < w.heap.size := by
  obtain ⟨es, c, hb, _⟩ := h.ex
  exact (Array.getElem?_eq_some_iff.1 hb).1
theorem StampAt.below {w' : World} {st : Nat} (h : StampAt w g st) (hb : Below w.heap.size w w') : StampAt w' g st := h.keep (hb.block g h.lt)
theorem StampAt.notMem {st : Nat} (h : StampAt w g st) (H : SH w0 S w L) : g ∉ L.map (·.g) := fun hm => by
  obtain ⟨b, hb, he⟩ := List.mem_map.1 hm
  obtain ⟨es, c, h1, _⟩ := h.ex
  have := H.own b hb
  rw [he, h1] at this; cases this
theorem MapAt.entry (h : MapAt P k w g m) (KY : Keyed P k) (ht : P.underlying t = some (.map k el)) (hz : (zeroValue el).run P w = .ok z w) (hkey : keyOf P k key = some kl) (hno : ∀ p ∈ m, p.1 ≠ key) :
    ∃ (ob : Obj) (st : Nat), (Instr.mapEntry t (.map (some g)) key).run P w = .ok (.tuple #[z, goInt st]) (setBlock w g ob) ∧ MapAt P k (setBlock w g ob) g (m ++ [(key, z)]) ∧ StampAt (setBlock w g ob) g st := by
  obtain ⟨es, cl, hb, h2, h3, rfl⟩ := h.ex
  have hlt : g < w.heap.size := h.lt
  have hset : ∀ o, (setBlock w g o).heap[g]? = some o := fun o => by simp [setBlock, hlt]
  rcases KY.find w hkey es.toList h3 with ⟨h4, h5⟩ | ⟨j, e0, h4, h5, h6⟩
  · refine ⟨.map (es.push ⟨key, z, cl⟩) (cl + 1), cl, ?_, ⟨_, _, hset _, stamped_push h2 h5, ?_, by simp⟩, ⟨_, _, hset _, ⟨key, z, cl⟩, by simp, rfl⟩⟩
    · simp [Instr.mapEntry, run_underlying ht, MapKept.run_getObj_map hb, KY.check w false hkey, h4, hz, MapKept.run_setObj_map _ hb, Result.andThen, setBlock]
    · intro x hx
      simp only [Array.toList_push, List.mem_append, List.mem_singleton] at hx
      rcases hx with hx | rfl
      · exact h3 x hx
      · exact ⟨_, hkey⟩
  · exact absurd h6 (hno (e0.key, e0.val) (List.mem_map.2 ⟨e0, List.mem_of_getElem? h5, rfl⟩))
theorem StampAt.store {st : Nat} (h : StampAt w g st) : ∃ ob, (Instr.entryStore t (.map (some g)) (goInt st) val).run P w = .ok () (setBlock w g ob) := by
  obtain ⟨es, cl, hb, x, hx, hst⟩ := h.ex
  cases hf : es.findIdx? (fun e => (e.born : Int) == (st : Int)) with
  | none =>
    rw [Array.findIdx?_eq_none_iff] at hf
    have := hf x (by simpa using hx)
    simp [hst] at this
  | some i =>
    refine ⟨.map (es.modify i fun e => { e with val := val }) cl, ?_⟩
    simp [Instr.entryStore, MapKept.run_getObj_map hb, goInt, asInt, asIntOf, hf, MapKept.run_setObj_map _ hb, Result.andThen, setBlock]
theorem OPS.entMap {d : Nat} (hop : o.op = .mapEntry t x ix) (hg : o.guard = none) (hd : o.dst = some d) (hN : Nat.blt d N = true) (M : MapAt P k w g m) (KY : Keyed P k) (ht : P.underlying t = some (.map k el)) (hz : ∀ w, (zeroValue el).run P w = .ok z w) (hkey : keyOf P k key = some kl)
    (hno : ∀ p ∈ m, p.1 ≠ key) (hx : ev e x = .map (some g)) (hi : ev e ix = key) (H : SH w0 S w L) (hm : g ∈ S ∨ w0.heap.size ≤ g)
    (h : ∀ w' (st : Nat), SH w0 S w' L → MapAt P k w' g (m ++ [(key, z)]) → StampAt w' g st → (∀ j, j ≠ g → w'.heap[j]? = w.heap[j]?) → OPS P N .plain ops K rest (upd e d (.tuple #[z, goInt st])) w') :
    OPS P N .plain ops K (o :: rest) e w := by
  obtain ⟨ob, st, h1, h2, h3⟩ := M.entry KY ht (hz w) hkey hno
  refine OPS.act (w' := setBlock w g ob) hg hd hN ?_ (h _ st (H.setB ob (M.notMem H) hm) h2 h3 fun j hj => heap_setB w g ob hj)
  unfold execOp; rw [hop]; simp only [hx, hi, Sem.run_bind, h1, Result.andThen_ok]; rfl
theorem OPS.stoMap {st : Nat} (hop : o.op = .entryStore t x ix y) (hg : o.guard = none) (hd : o.dst = none) (M : StampAt w g st)
    (hx : ev e x = .map (some g)) (hi : ev e ix = goInt st) (H : SH w0 S w L) (hm : g ∈ S ∨ w0.heap.size ≤ g)
    (h : ∀ w', SH w0 S w' L → (∀ j, j ≠ g → w'.heap[j]? = w.heap[j]?) → OPS P N .plain ops K rest e w') :
    OPS P N .plain ops K (o :: rest) e w := by
  obtain ⟨ob, h1⟩ := M.store (P := P) (t := t) (val := ev e y)
  refine OPS.actn (w' := setBlock w g ob) hg hd ?_ (h _ (H.setB ob (M.notMem H) hm) fun j hj => heap_setB w g ob hj)
  unfold execOp; rw [hop]; simp only [hx, hi, Sem.run_bind, h1, Result.andThen_ok]; rfl
end
end Go.W

/-
  Walks: photos.
-/
set_option linter.all false
namespace Go.Proofs.YtjgdklhbegplfaaGreat
open Go Go.W Go.RowKit

abbrev U8 (n : Int) : Value := .int .u8 n
structure Pho where
  ride : Int
  at_ : Int
  w : Int
  h : Int
  P : SlA Int
instance : Inhabited Pho := ⟨⟨0, 0, 0, 0, ⟨none, 0, []⟩⟩⟩
def phoCells (p : Pho) : List Value := [I p.ride, I p.at_, I p.w, I p.h, .slice p.P.A p.P.l.length p.P.cap]
structure PhoAt (w : World) (p : Pho) : Prop where
  pix : OnesAt U8 w p.P.A p.P.l
  len : p.P.l.length ≤ maxLen
theorem PhoAt.below {w w' : World} {p : Pho} (h : PhoAt w p) (hb : Below w.heap.size w w') : PhoAt w' p := ⟨h.pix.below hb, h.len⟩
structure PhosAt (w : World) (A : Option Addr) (ps : List Pho) : Prop where
  rows : RowsAt 5 phoCells w A ps
  each : ∀ p ∈ ps, PhoAt w p
  len : ps.length ≤ maxLen
theorem PhosAt.below {w w' : World} {A : Option Addr} {ps : List Pho} (h : PhosAt w A ps) (hb : Below w.heap.size w w') : PhosAt w' A ps := ⟨h.rows.below hb, fun f hf => (h.each f hf).below hb, h.len⟩
theorem PhosAt.sh {w0 w : World} {L : List Blk} {A : Option Addr} {ps : List Pho} (h : PhosAt w0 A ps) (H : SH w0 [] w L) : PhosAt w A ps := h.below H.below
def phoBad (p : Pho) : Bool := (((((((decide (p.ride < 1) || decide (1000000 < p.ride)) || decide (p.at_ < 0)) || decide (4294943999 < p.at_)) || decide (p.w < 9)) || decide (64 < p.w)) || decide (p.h < 9)) || decide (64 < p.h))
def phoErr (p : Pho) : Int := if phoBad p = true then 1 else if (p.P.l.length : Int) ≠ p.w * p.h then 3 else 0
theorem phoCheck (p : Pho) (w0 : World) (hl : p.P.l.length ≤ maxLen) : Calls Tryz.prog 69 #[.agg (phoCells p).toArray] w0 fun e w' => e = .returned (I (phoErr p)) ∧ Below w0.heap.size w0 w' := by
  have H := SH.refl w0
  refine Calls.ofWP Tryz.func69 rfl Tryz.results69 Tryz.ntmps69 rfl ?_
  refine WP.seq ?_
  refine WP.region ?_
  refine OPS.box rfl rfl rfl rfl (cA rfl) H ?_
  clear H; intro g1 w H
  refine OPS.val rfl rfl rfl (Ev.asI rfl) ?_
  refine OPS.nil ?_
  unfold phoCells at H
  refine WP.seq ?_
  refine WP.seq ?_
  refine WP.region ?_
  refine OPS.val rfl rfl rfl (Ev.fieldAddr (fld_run rfl) rfl) ?_
  refine OPS.val rfl rfl rfl (Ev.load1 (agg_run rfl) rfl (by exact H.ldL 0 rfl _ rfl)) ?_
  refine OPS.val rfl rfl rfl (Ev.lss rfl rfl) ?_
  refine OPS.val rfl rfl rfl (Ev.mvB rfl) ?_
  refine OPS.gval rfl rfl rfl rfl rfl (fun hg => Ev.fieldAddr (fld_run rfl) (by rfl)) ?_
  refine OPS.gval rfl rfl rfl rfl rfl (fun hg => Ev.load1 (agg_run rfl) (by exact gvE hg rfl) (by exact H.ldL 0 rfl _ rfl)) ?_
  refine OPS.gval rfl rfl rfl rfl rfl (fun hg => Ev.gtr (by exact gvE hg rfl) (by rfl)) ?_
  refine OPS.val rfl rfl rfl ((by exact Ev.pickOr rfl rfl rfl)) ?_
  refine OPS.val rfl rfl rfl (Ev.mvB rfl) ?_
  refine OPS.gval rfl rfl rfl rfl rfl (fun hg => Ev.fieldAddr (fld_run rfl) (by rfl)) ?_
  refine OPS.gval rfl rfl rfl rfl rfl (fun hg => Ev.load1 (agg_run rfl) (by exact gvE hg rfl) (by exact H.ldL 0 rfl _ rfl)) ?_
  refine OPS.gval rfl rfl rfl rfl rfl (fun hg => Ev.lss (by exact gvE hg rfl) (by rfl)) ?_
  refine OPS.val rfl rfl rfl ((by exact Ev.pickOr rfl rfl rfl)) ?_
  refine OPS.val rfl rfl rfl (Ev.mvB rfl) ?_
  refine OPS.gval rfl rfl rfl rfl rfl (fun hg => Ev.fieldAddr (fld_run rfl) (by rfl)) ?_
  refine OPS.gval rfl rfl rfl rfl rfl (fun hg => Ev.load1 (agg_run rfl) (by exact gvE hg rfl) (by exact H.ldL 0 rfl _ rfl)) ?_
  refine OPS.gval rfl rfl rfl rfl rfl (fun hg => Ev.gtr (by exact gvE hg rfl) (by rfl)) ?_
  refine OPS.val rfl rfl rfl ((by exact Ev.pickOr rfl rfl rfl)) ?_
  refine OPS.val rfl rfl rfl (Ev.mvB rfl) ?_
  refine OPS.gval rfl rfl rfl rfl rfl (fun hg => Ev.fieldAddr (fld_run rfl) (by rfl)) ?_
  refine OPS.gval rfl rfl rfl rfl rfl (fun hg => Ev.load1 (agg_run rfl) (by exact gvE hg rfl) (by exact H.ldL 0 rfl _ rfl)) ?_
  refine OPS.gval rfl rfl rfl rfl rfl (fun hg => Ev.lss (by exact gvE hg rfl) (by rfl)) ?_
  refine OPS.val rfl rfl rfl ((by exact Ev.pickOr rfl rfl rfl)) ?_
  refine OPS.val rfl rfl rfl (Ev.mvB rfl) ?_
  refine OPS.gval rfl rfl rfl rfl rfl (fun hg => Ev.fieldAddr (fld_run rfl) (by rfl)) ?_
  refine OPS.gval rfl rfl rfl rfl rfl (fun hg => Ev.load1 (agg_run rfl) (by exact gvE hg rfl) (by exact H.ldL 0 rfl _ rfl)) ?_
  refine OPS.gval rfl rfl rfl rfl rfl (fun hg => Ev.gtr (by exact gvE hg rfl) (by rfl)) ?_
  refine OPS.val rfl rfl rfl ((by exact Ev.pickOr rfl rfl rfl)) ?_
  refine OPS.val rfl rfl rfl (Ev.mvB rfl) ?_
  refine OPS.gval rfl rfl rfl rfl rfl (fun hg => Ev.fieldAddr (fld_run rfl) (by rfl)) ?_
  refine OPS.gval rfl rfl rfl rfl rfl (fun hg => Ev.load1 (agg_run rfl) (by exact gvE hg rfl) (by exact H.ldL 0 rfl _ rfl)) ?_
  refine OPS.gval rfl rfl rfl rfl rfl (fun hg => Ev.lss (by exact gvE hg rfl) (by rfl)) ?_
  refine OPS.val rfl rfl rfl ((by exact Ev.pickOr rfl rfl rfl)) ?_
  refine OPS.val rfl rfl rfl (Ev.mvB rfl) ?_
  refine OPS.gval rfl rfl rfl rfl rfl (fun hg => Ev.fieldAddr (fld_run rfl) (by rfl)) ?_
  refine OPS.gval rfl rfl rfl rfl rfl (fun hg => Ev.load1 (agg_run rfl) (by exact gvE hg rfl) (by exact H.ldL 0 rfl _ rfl)) ?_
  refine OPS.gval rfl rfl rfl rfl rfl (fun hg => Ev.gtr (by exact gvE hg rfl) (by rfl)) ?_
  refine OPS.val rfl rfl rfl ((by exact Ev.pickOr rfl rfl rfl)) ?_
  refine OPS.nil ?_
  refine WP.cond rfl (fun hc1 => ?_) (fun hc1 => ?_)
  · refine WP.seq ?_
    refine WP.region ?_
    refine OPS.val rfl rfl rfl (Ev.asI rfl) ?_
    refine OPS.nil ?_
    refine WP.ret ⟨_, rfl, ?_⟩
    have h1 : phoBad p = true := hc1
    exact ⟨ret_int (by rw [phoErr, if_pos h1]), H.below⟩
  have h1 : phoBad p = false := hc1
  have hm : 81 ≤ p.w * p.h ∧ p.w * p.h ≤ 4096 := by
    unfold phoBad at h1
    simp at h1
    have := Int.mul_le_mul (a := 9) (b := 9) (c := p.w) (d := p.h) (by omega) (by omega) (by omega) (by omega)
    have := Int.mul_le_mul (a := p.w) (b := p.h) (c := 64) (d := 64) (by omega) (by omega) (by omega) (by omega)
    omega
  refine WP.skip ?_
  refine WP.seq ?_
  refine WP.seq ?_
  refine WP.region ?_
  refine OPS.val rfl rfl rfl (Ev.fieldAddr (fld_run rfl) rfl) ?_
  refine OPS.val rfl rfl rfl (Ev.load1 (agg_run rfl) rfl (by exact H.ldL 0 rfl _ rfl)) ?_
  refine OPS.val rfl rfl rfl (Ev.len (el_run rfl) rfl) ?_
  refine OPS.val rfl rfl rfl (Ev.fieldAddr (fld_run rfl) rfl) ?_
  refine OPS.val rfl rfl rfl (Ev.load1 (agg_run rfl) rfl (by exact H.ldL 0 rfl _ rfl)) ?_
  refine OPS.val rfl rfl rfl (Ev.fieldAddr (fld_run rfl) rfl) ?_
  refine OPS.val rfl rfl rfl (Ev.load1 (agg_run rfl) rfl (by exact H.ldL 0 rfl _ rfl)) ?_
  refine OPS.val rfl rfl rfl (Ev.mul rfl rfl (by unfold fits; omega)) ?_
  refine OPS.val rfl rfl rfl (Ev.neq rfl rfl) ?_
  refine OPS.nil ?_
  refine WP.cond rfl (fun hc3 => ?_) (fun hc3 => ?_)
  · refine WP.seq ?_
    refine WP.region ?_
    refine OPS.val rfl rfl rfl (Ev.asI rfl) ?_
    refine OPS.nil ?_
    refine WP.ret ⟨_, rfl, ?_⟩
    have h2 : (p.P.l.length : Int) ≠ p.w * p.h := by simpa using hc3
    exact ⟨ret_int (by rw [phoErr, if_neg (by rw [h1]; simp), if_pos h2]), H.below⟩
  have h2 : ¬ (p.P.l.length : Int) ≠ p.w * p.h := by simpa using hc3
  refine WP.skip ?_
  refine WP.seq ?_
  refine WP.region ?_
  refine OPS.val rfl rfl rfl (Ev.asI rfl) ?_
  refine OPS.nil ?_
  refine WP.ret ⟨_, rfl, ?_⟩
  exact ⟨ret_int (by rw [phoErr, if_neg (by rw [h1]; simp), if_neg h2]), H.below⟩
def mxT (l : List Int) : Nat → Int
  | 0 => l.getD 0 0
  | i + 1 => if mxT l i < l.getD i 0 then l.getD i 0 else mxT l i
def mnT (l : List Int) : Nat → Int
  | 0 => l.getD 0 0
  | i + 1 => if l.getD i 0 < mnT l i then l.getD i 0 else mnT l i
theorem slMaxB (A : Option Addr) (l : List Int) (cap : Nat) (w0 : World) (hz : OnesAt U8 w0 A l) (h0 : 0 < l.length) (hl : l.length ≤ 100000) :
    Calls Tryz.prog 70 #[.slice A l.length cap] w0 fun e w' => e = .returned (U8 (mxT l l.length)) ∧ Below w0.heap.size w0 w' := by
  have H := SH.refl w0
  obtain ⟨b, o, rfl, _⟩ := hz 0 h0
  have hat : ∀ i, i < l.length → w0.cell? ⟨b, o + i, none⟩ = some (U8 (l.getD i 0)) := fun i hi => by
    rw [hz.atK hi, List.getD_eq_getElem?_getD, List.getElem?_eq_getElem hi]; rfl
  refine Calls.ofWP Tryz.func70 rfl Tryz.results70 Tryz.ntmps70 rfl ?_
  refine WP.seq ?_
  refine WP.region ?_
  refine OPS.val rfl rfl rfl (Ev.asI rfl) ?_
  refine OPS.nil ?_
  refine WP.seq ?_
  refine WP.seq ?_
  refine WP.region ?_
  refine OPS.val rfl rfl rfl (Ev.mvS rfl) ?_
  refine OPS.val rfl rfl rfl (Ev.len (el_run rfl) rfl) ?_
  refine OPS.val rfl rfl rfl (Ev.lss rfl rfl) ?_
  refine OPS.nil ?_
  refine WP.cond rfl (fun hc1 => ?_) (fun hc1 => ?_)
  · exfalso; simp at hc1; omega
  refine WP.skip ?_
  refine WP.seq ?_
  refine WP.region ?_
  refine OPS.val rfl rfl rfl (Ev.mvS rfl) ?_
  refine OPS.val rfl rfl rfl ((by exact Ev.indexAddr1 (el_run rfl) (size_run rfl) rfl rfl rfl (by omega))) ?_
  have hl0 := hat 0 h0
  refine OPS.val rfl rfl rfl (Ev.load1 (agg_run rfl) rfl (H.ld0 hl0)) ?_
  refine OPS.val rfl rfl rfl (Ev.asI rfl) ?_
  refine OPS.nil ?_
  refine WP.seq ?_
  refine WP.seq ?_
  refine WP.region ?_
  refine OPS.val rfl rfl rfl (Ev.asI rfl) ?_
  refine OPS.nil ?_
  refine WP.block ?_
  refine WP.loop [3, 4, 12, 13, 14, 15, 16, 17, 18, 19, 20, 21, 22, 23] (fun k e w' => ∃ (i : Nat), i + k = l.length ∧ 1 ≤ i ∧ e 4 = I i ∧ e 3 = U8 (mxT l i) ∧ SH w0 [] w' []) (l.length - 1) (⟨1, by omega, by omega, rfl, (by rw [mxT, mxT, if_neg (by omega)]; rfl), H⟩) ?_
  clear H
  rintro k u w ⟨i, hk, hi1, h4, h3, H⟩
  refine WP.know (t := 4) h4 (WP.know (t := 3) h3 ?_)
  refine WP.seq ?_
  refine WP.seq ?_
  refine WP.region ?_
  refine OPS.val rfl rfl rfl (Ev.mvI rfl) ?_
  refine OPS.val rfl rfl rfl (Ev.mvS rfl) ?_
  refine OPS.val rfl rfl rfl (Ev.len (el_run rfl) rfl) ?_
  refine OPS.val rfl rfl rfl (Ev.lss rfl rfl) ?_
  refine OPS.nil ?_
  refine WP.cond rfl (fun hc5 => ?_) (fun hc5 => ?_)
  · have hlt : i < l.length := by simpa using hc5
    have hli := hat i hlt
    refine WP.skip ?_
    refine WP.seq ?_
    refine WP.block ?_
    refine WP.region ?_
    refine OPS.val rfl rfl rfl (Ev.mvI rfl) ?_
    refine OPS.val rfl rfl rfl (Ev.mvS rfl) ?_
    refine OPS.val rfl rfl rfl (Ev.mvI rfl) ?_
    refine OPS.val rfl rfl rfl ((by exact Ev.indexAddr1 (el_run rfl) (size_run rfl) rfl rfl rfl (by omega))) ?_
    refine OPS.val rfl rfl rfl (Ev.load1 (agg_run rfl) rfl (H.ld0 hli)) ?_
    refine OPS.val rfl rfl rfl (Ev.max rfl rfl) ?_
    refine OPS.val rfl rfl rfl (Ev.asI rfl) ?_
    refine OPS.nil ?_
    refine WP.region ?_
    refine OPS.val rfl rfl rfl (Ev.mvI rfl) ?_
    refine OPS.val rfl rfl rfl (Ev.add rfl rfl (by unfold fits; omega)) ?_
    refine OPS.val rfl rfl rfl (Ev.asI rfl) ?_
    refine OPS.nil ?_
    exact ⟨(by repeat (first | exact Agree.refl _ _ | exact Agree.mix _ _ _ | refine Agree.upd rfl ?_ | refine Agree.mix2 rfl ?_)), k - 1, by omega, i + 1, by omega, by omega, rfl, rfl, H⟩
  refine WP.exit ?_
  refine XB.hit ?_
  refine WP.seq ?_
  refine WP.region ?_
  refine OPS.val rfl rfl rfl (Ev.mvI rfl) ?_
  refine OPS.val rfl rfl rfl (Ev.asI rfl) ?_
  refine OPS.nil ?_
  refine WP.ret ⟨_, rfl, ?_⟩
  have : i = l.length := by simp at hc5; omega
  subst this
  exact ⟨rfl, H.below⟩
theorem slMinB (A : Option Addr) (l : List Int) (cap : Nat) (w0 : World) (hz : OnesAt U8 w0 A l) (h0 : 0 < l.length) (hl : l.length ≤ 100000) :
    Calls Tryz.prog 71 #[.slice A l.length cap] w0 fun e w' => e = .returned (U8 (mnT l l.length)) ∧ Below w0.heap.size w0 w' := by
  have H := SH.refl w0
  obtain ⟨b, o, rfl, _⟩ := hz 0 h0
  have hat : ∀ i, i < l.length → w0.cell? ⟨b, o + i, none⟩ = some (U8 (l.getD i 0)) := fun i hi => by
    rw [hz.atK hi, List.getD_eq_getElem?_getD, List.getElem?_eq_getElem hi]; rfl
  refine Calls.ofWP Tryz.func71 rfl Tryz.results71 Tryz.ntmps71 rfl ?_
  refine WP.seq ?_
  refine WP.region ?_
  refine OPS.val rfl rfl rfl (Ev.asI rfl) ?_
  refine OPS.nil ?_
  refine WP.seq ?_
  refine WP.seq ?_
  refine WP.region ?_
  refine OPS.val rfl rfl rfl (Ev.mvS rfl) ?_
  refine OPS.val rfl rfl rfl (Ev.len (el_run rfl) rfl) ?_
  refine OPS.val rfl rfl rfl (Ev.lss rfl rfl) ?_
  refine OPS.nil ?_
  refine WP.cond rfl (fun hc1 => ?_) (fun hc1 => ?_)
  · exfalso; simp at hc1; omega
  refine WP.skip ?_
  refine WP.seq ?_
  refine WP.region ?_
  refine OPS.val rfl rfl rfl (Ev.mvS rfl) ?_
  refine OPS.val rfl rfl rfl ((by exact Ev.indexAddr1 (el_run rfl) (size_run rfl) rfl rfl rfl (by omega))) ?_
  have hl0 := hat 0 h0
  refine OPS.val rfl rfl rfl (Ev.load1 (agg_run rfl) rfl (H.ld0 hl0)) ?_
  refine OPS.val rfl rfl rfl (Ev.asI rfl) ?_
  refine OPS.nil ?_
  refine WP.seq ?_
  refine WP.seq ?_
  refine WP.region ?_
  refine OPS.val rfl rfl rfl (Ev.asI rfl) ?_
  refine OPS.nil ?_
  refine WP.block ?_
  refine WP.loop [3, 4, 12, 13, 14, 15, 16, 17, 18, 19, 20, 21, 22, 23] (fun k e w' => ∃ (i : Nat), i + k = l.length ∧ 1 ≤ i ∧ e 4 = I i ∧ e 3 = U8 (mnT l i) ∧ SH w0 [] w' []) (l.length - 1) (⟨1, by omega, by omega, rfl, (by rw [mnT, mnT, if_neg (by omega)]; rfl), H⟩) ?_
  clear H
  rintro k u w ⟨i, hk, hi1, h4, h3, H⟩
  refine WP.know (t := 4) h4 (WP.know (t := 3) h3 ?_)
  refine WP.seq ?_
  refine WP.seq ?_
  refine WP.region ?_
  refine OPS.val rfl rfl rfl (Ev.mvI rfl) ?_
  refine OPS.val rfl rfl rfl (Ev.mvS rfl) ?_
  refine OPS.val rfl rfl rfl (Ev.len (el_run rfl) rfl) ?_
  refine OPS.val rfl rfl rfl (Ev.lss rfl rfl) ?_
  refine OPS.nil ?_
  refine WP.cond rfl (fun hc5 => ?_) (fun hc5 => ?_)
  · have hlt : i < l.length := by simpa using hc5
    have hli := hat i hlt
    refine WP.skip ?_
    refine WP.seq ?_
    refine WP.block ?_
    refine WP.region ?_
    refine OPS.val rfl rfl rfl (Ev.mvI rfl) ?_
    refine OPS.val rfl rfl rfl (Ev.mvS rfl) ?_
    refine OPS.val rfl rfl rfl (Ev.mvI rfl) ?_
    refine OPS.val rfl rfl rfl ((by exact Ev.indexAddr1 (el_run rfl) (size_run rfl) rfl rfl rfl (by omega))) ?_
    refine OPS.val rfl rfl rfl (Ev.load1 (agg_run rfl) rfl (H.ld0 hli)) ?_
    refine OPS.val rfl rfl rfl (Ev.min rfl rfl) ?_
    refine OPS.val rfl rfl rfl (Ev.asI rfl) ?_
    refine OPS.nil ?_
    refine WP.region ?_
    refine OPS.val rfl rfl rfl (Ev.mvI rfl) ?_
    refine OPS.val rfl rfl rfl (Ev.add rfl rfl (by unfold fits; omega)) ?_
    refine OPS.val rfl rfl rfl (Ev.asI rfl) ?_
    refine OPS.nil ?_
    exact ⟨(by repeat (first | exact Agree.refl _ _ | exact Agree.mix _ _ _ | refine Agree.upd rfl ?_ | refine Agree.mix2 rfl ?_)), k - 1, by omega, i + 1, by omega, by omega, rfl, rfl, H⟩
  refine WP.exit ?_
  refine XB.hit ?_
  refine WP.seq ?_
  refine WP.region ?_
  refine OPS.val rfl rfl rfl (Ev.mvI rfl) ?_
  refine OPS.val rfl rfl rfl (Ev.asI rfl) ?_
  refine OPS.nil ?_
  refine WP.ret ⟨_, rfl, ?_⟩
  have : i = l.length := by simp at hc5; omega
  subst this
  exact ⟨rfl, H.below⟩
def usableB (p : Pho) : Bool := decide (phoErr p = 0) && decide (32 ≤ IntKind.u8.wrap (mxT p.P.l p.P.l.length - mnT p.P.l p.P.l.length))
theorem phoOk {p : Pho} (h : phoErr p = 0) : 0 < p.P.l.length ∧ p.P.l.length ≤ 100000 := by
  unfold phoErr at h
  split at h
  · cases h
  rename_i h1
  split at h
  · cases h
  rename_i h2
  unfold phoBad at h1
  simp at h1
  have := Int.mul_le_mul (a := 9) (b := 9) (c := p.w) (d := p.h) (by omega) (by omega) (by omega) (by omega)
  have := Int.mul_le_mul (a := p.w) (b := p.h) (c := 64) (d := 64) (by omega) (by omega) (by omega) (by omega)
  have h2 := Classical.not_not.1 h2
  omega
theorem phoUsable (p : Pho) (w0 : World) (hz : PhoAt w0 p) : Calls Tryz.prog 37 #[.agg (phoCells p).toArray] w0 fun e w' => e = .returned (.bool (usableB p)) ∧ Below w0.heap.size w0 w' := by
  have H := SH.refl w0
  refine Calls.ofWP Tryz.func37 rfl Tryz.results37 Tryz.ntmps37 rfl ?_
  refine WP.seq ?_
  refine WP.region ?_
  refine OPS.box rfl rfl rfl rfl (cA rfl) H ?_
  clear H; intro g1 w H
  refine OPS.val rfl rfl rfl (Ev.asB rfl) ?_
  refine OPS.nil ?_
  refine WP.seq ?_
  refine WP.rquiet mixed (by kernel_rfl) H ?_
  clear H; intro w hbw1 H
  refine OPS.val rfl rfl rfl ((by exact Ev.loadO 0 H rfl (agg_run rfl) (size_run rfl) (by rfl) rfl)) ?_
  refine OPS.callq rfl rfl rfl (EvC.func (fun_run rfl)) (fun w2 hb2 => phoCheck p w2 hz.len) ?_
  refine OPS.val rfl rfl rfl (Ev.eql rfl rfl) ?_
  refine OPS.val rfl rfl rfl (Ev.mvB rfl) ?_
  refine OPS.gval rfl rfl rfl rfl rfl (fun hg => Ev.fieldAddr (fld_run rfl) (by rfl)) ?_
  refine OPS.gval rfl rfl rfl rfl rfl (fun hg => Ev.load1 (agg_run rfl) (by exact gvE hg rfl) (by exact H.ldL 0 rfl _ rfl)) ?_
  refine OPS.gcallq2 (f := 70) (fun hg w2 hb2 => slMaxB p.P.A p.P.l p.P.cap w2 ((hz.pix.sh H).below hb2) (phoOk (by simpa using hg)).1 (phoOk (by simpa using hg)).2) rfl rfl rfl rfl rfl (fun hg => EvC.conv (EvC.func (fun_run rfl)) (l1 (by exact gvE hg rfl))) ?_
  refine OPS.gval rfl rfl rfl rfl rfl (fun hg => Ev.fieldAddr (fld_run rfl) (by rfl)) ?_
  refine OPS.gval rfl rfl rfl rfl rfl (fun hg => Ev.load1 (agg_run rfl) (by exact gvE hg rfl) (by exact H.ldL 0 rfl _ rfl)) ?_
  refine OPS.gcallq2 (f := 71) (fun hg w2 hb2 => slMinB p.P.A p.P.l p.P.cap w2 ((hz.pix.sh H).below hb2) (phoOk (by simpa using hg)).1 (phoOk (by simpa using hg)).2) rfl rfl rfl rfl rfl (fun hg => EvC.conv (EvC.func (fun_run rfl)) (l1 (by exact gvE hg rfl))) ?_
  refine OPS.gval rfl rfl rfl rfl rfl (fun hg => Ev.subw (gvE hg rfl) (gvE hg rfl)) ?_
  refine OPS.gval rfl rfl rfl rfl rfl (fun hg => Ev.geq (by exact gvE hg rfl) (by rfl)) ?_
  refine OPS.val rfl rfl rfl ((by exact Ev.pickAnd rfl rfl rfl)) ?_
  refine OPS.val rfl rfl rfl (Ev.asB rfl) ?_
  refine OPS.nilq H ?_
  clear H; intro w hbx1 H
  refine WP.ret ⟨_, rfl, ?_⟩
  exact ⟨rfl, H.below⟩
end Go.Proofs.YtjgdklhbegplfaaGreat

/-
  Walks: what is asked of parking, and the first of a list for which a function holds.
-/
set_option linter.all false
namespace Go.Proofs.YtjgdklhbegplfaaGreat
open Go Go.W Go.RowKit

structure Park where
  ride : Int
  rider : Int
  t : Int
  p : Pt
  r : Int
def parkCells (p : Park) : List Value := [I p.ride, I p.rider, I p.t, I p.p.x, I p.p.y, I p.r]
def inB (n lo hi : Int) : Bool := decide (lo ≤ n) && decide (n ≤ hi)
theorem parkIn (n lo hi : Int) (w0 : World) : Calls Tryz.prog 36 #[I n, I lo, I hi] w0 fun e w' => e = .returned (.bool (inB n lo hi)) ∧ Below w0.heap.size w0 w' := by
  have H := SH.refl w0
  refine Calls.ofWP Tryz.func36 rfl Tryz.results36 Tryz.ntmps36 rfl ?_
  refine WP.seq ?_
  refine WP.region ?_
  refine OPS.val rfl rfl rfl (Ev.asB rfl) ?_
  refine OPS.nil ?_
  refine WP.seq ?_
  refine WP.region ?_
  refine OPS.val rfl rfl rfl (Ev.mvI rfl) ?_
  refine OPS.val rfl rfl rfl (Ev.mvI rfl) ?_
  refine OPS.val rfl rfl rfl (Ev.leq rfl rfl) ?_
  refine OPS.val rfl rfl rfl (Ev.mvB rfl) ?_
  refine OPS.gval rfl rfl rfl rfl rfl (fun hg => Ev.mvI (by rfl)) ?_
  refine OPS.gval rfl rfl rfl rfl rfl (fun hg => Ev.mvI (by rfl)) ?_
  refine OPS.gval rfl rfl rfl rfl rfl (fun hg => Ev.leq (by exact gvE hg rfl) (by exact gvE hg rfl)) ?_
  refine OPS.val rfl rfl rfl ((by exact Ev.pickAnd rfl rfl rfl)) ?_
  refine OPS.val rfl rfl rfl (Ev.asB rfl) ?_
  refine OPS.nil ?_
  refine WP.ret ⟨_, rfl, ?_⟩
  exact ⟨rfl, H.below⟩
def parkBad (p : Park) : Bool := ((((!inB p.ride 1 1000000 || !inB p.rider 0 127) || !inB p.t 0 4294943999) || !inB p.p.x (-16384) 16384) || !inB p.p.y (-16384) 16384) || !inB p.r 0 16384
def parkErr (p : Park) : Int := if parkBad p = true then 1 else 0
set_option maxHeartbeats 1000000 in
theorem parkCheck (p : Park) (w0 : World) : Calls Tryz.prog 33 #[.agg (parkCells p).toArray] w0 fun e w' => e = .returned (I (parkErr p)) ∧ Below w0.heap.size w0 w' := by
  have H := SH.refl w0
  refine Calls.ofWP Tryz.func33 rfl Tryz.results33 Tryz.ntmps33 rfl ?_
  refine WP.seq ?_
  refine WP.region ?_
  refine OPS.box rfl rfl rfl rfl (cA rfl) H ?_
  clear H; intro g1 w H
  refine OPS.val rfl rfl rfl (Ev.asI rfl) ?_
  refine OPS.nil ?_
  unfold parkCells at H
  refine WP.seq ?_
  refine WP.seq ?_
  refine WP.region ?_
  refine OPS.val rfl rfl rfl (Ev.fieldAddr (fld_run rfl) rfl) ?_
  refine OPS.val rfl rfl rfl (Ev.load1 (agg_run rfl) rfl (by exact H.ldL 0 rfl _ rfl)) ?_
  refine OPS.call (d := some 5) rfl rfl rfl (EvC.func (fun_run rfl)) (parkIn p.ride 1 1000000 w) ?_
  rintro _ w ⟨rfl, hb⟩
  refine ⟨_, rfl, ?_⟩
  replace H := H.toBelow hb; clear hb
  refine OPS.val rfl rfl rfl (Ev.not rfl) ?_
  refine OPS.val rfl rfl rfl (Ev.mvB rfl) ?_
  refine OPS.gval rfl rfl rfl rfl rfl (fun hg => Ev.fieldAddr (fld_run rfl) (by rfl)) ?_
  refine OPS.gval rfl rfl rfl rfl rfl (fun hg => Ev.load1 (agg_run rfl) (by exact gvE hg rfl) (by exact H.ldL 0 rfl _ rfl)) ?_
  refine OPS.gcall0 (f := 36) (parkIn p.rider 0 127 w) (fun _ _ h => h) rfl rfl rfl rfl rfl (fun hg => EvC.conv (EvC.func (fun_run rfl)) (l3 (by exact gvE hg rfl) (by rfl) (by rfl))) ?_
  intro w hbc; replace H := H.toBelow hbc
  refine OPS.gval rfl rfl rfl rfl rfl (fun hg => Ev.not (by exact gvE hg rfl)) ?_
  refine OPS.val rfl rfl rfl ((by exact Ev.pickOr rfl rfl rfl)) ?_
  refine OPS.val rfl rfl rfl (Ev.mvB rfl) ?_
  refine OPS.gval rfl rfl rfl rfl rfl (fun hg => Ev.fieldAddr (fld_run rfl) (by rfl)) ?_
  refine OPS.gval rfl rfl rfl rfl rfl (fun hg => Ev.load1 (agg_run rfl) (by exact gvE hg rfl) (by exact H.ldL 0 rfl _ rfl)) ?_
  refine OPS.gcall0 (f := 36) (parkIn p.t 0 4294943999 w) (fun _ _ h => h) rfl rfl rfl rfl rfl (fun hg => EvC.conv (EvC.func (fun_run rfl)) (l3 (by exact gvE hg rfl) (by rfl) (by rfl))) ?_
  intro w hbc; replace H := H.toBelow hbc
  refine OPS.gval rfl rfl rfl rfl rfl (fun hg => Ev.not (by exact gvE hg rfl)) ?_
  refine OPS.val rfl rfl rfl ((by exact Ev.pickOr rfl rfl rfl)) ?_
  refine OPS.val rfl rfl rfl (Ev.mvB rfl) ?_
  refine OPS.gval rfl rfl rfl rfl rfl (fun hg => Ev.fieldAddr (fld_run rfl) (by rfl)) ?_
  refine OPS.gval rfl rfl rfl rfl rfl (fun hg => Ev.fieldAddr (fld_run rfl) (by exact gvE hg rfl)) ?_
  refine OPS.gval rfl rfl rfl rfl rfl (fun hg => Ev.load1 (agg_run rfl) (by exact gvE hg rfl) (by exact H.ldL 0 rfl _ rfl)) ?_
  refine OPS.gcall0 (f := 36) (parkIn p.p.x (-16384) 16384 w) (fun _ _ h => h) rfl rfl rfl rfl rfl (fun hg => EvC.conv (EvC.func (fun_run rfl)) (l3 (by exact gvE hg rfl) (by rfl) (by rfl))) ?_
  intro w hbc; replace H := H.toBelow hbc
  refine OPS.gval rfl rfl rfl rfl rfl (fun hg => Ev.not (by exact gvE hg rfl)) ?_
  refine OPS.val rfl rfl rfl ((by exact Ev.pickOr rfl rfl rfl)) ?_
  refine OPS.val rfl rfl rfl (Ev.mvB rfl) ?_
  refine OPS.gval rfl rfl rfl rfl rfl (fun hg => Ev.fieldAddr (fld_run rfl) (by rfl)) ?_
  refine OPS.gval rfl rfl rfl rfl rfl (fun hg => Ev.fieldAddr (fld_run rfl) (by exact gvE hg rfl)) ?_
  refine OPS.gval rfl rfl rfl rfl rfl (fun hg => Ev.load1 (agg_run rfl) (by exact gvE hg rfl) (by exact H.ldL 0 rfl _ rfl)) ?_
  refine OPS.gcall0 (f := 36) (parkIn p.p.y (-16384) 16384 w) (fun _ _ h => h) rfl rfl rfl rfl rfl (fun hg => EvC.conv (EvC.func (fun_run rfl)) (l3 (by exact gvE hg rfl) (by rfl) (by rfl))) ?_
  intro w hbc; replace H := H.toBelow hbc
  refine OPS.gval rfl rfl rfl rfl rfl (fun hg => Ev.not (by exact gvE hg rfl)) ?_
  refine OPS.val rfl rfl rfl ((by exact Ev.pickOr rfl rfl rfl)) ?_
  refine OPS.val rfl rfl rfl (Ev.mvB rfl) ?_
  refine OPS.gval rfl rfl rfl rfl rfl (fun hg => Ev.fieldAddr (fld_run rfl) (by rfl)) ?_
  refine OPS.gval rfl rfl rfl rfl rfl (fun hg => Ev.load1 (agg_run rfl) (by exact gvE hg rfl) (by exact H.ldL 0 rfl _ rfl)) ?_
  refine OPS.gcall0 (f := 36) (parkIn p.r 0 16384 w) (fun _ _ h => h) rfl rfl rfl rfl rfl (fun hg => EvC.conv (EvC.func (fun_run rfl)) (l3 (by exact gvE hg rfl) (by rfl) (by rfl))) ?_
  intro w hbc; replace H := H.toBelow hbc
  refine OPS.gval rfl rfl rfl rfl rfl (fun hg => Ev.not (by exact gvE hg rfl)) ?_
  refine OPS.val rfl rfl rfl ((by exact Ev.pickOr rfl rfl rfl)) ?_
  refine OPS.nil ?_
  refine WP.cond rfl (fun hc1 => ?_) (fun hc1 => ?_)
  · refine WP.seq ?_
    refine WP.region ?_
    refine OPS.val rfl rfl rfl (Ev.asI rfl) ?_
    refine OPS.nil ?_
    refine WP.ret ⟨_, rfl, ?_⟩
    have h1 : parkBad p = true := hc1
    exact ⟨ret_int (by rw [parkErr, if_pos h1]), H.below⟩
  refine WP.skip ?_
  refine WP.seq ?_
  refine WP.region ?_
  refine OPS.val rfl rfl rfl (Ev.asI rfl) ?_
  refine OPS.nil ?_
  refine WP.ret ⟨_, rfl, ?_⟩
  have h1 : parkBad p = false := hc1
  exact ⟨ret_int (by rw [parkErr, if_neg (by rw [h1]; simp)]), H.below⟩
def judgeErr (fs : List Fen) (n : Nat) (p : Park) : Int := if parkErr p ≠ 0 then parkErr p else if chkErr fs ≠ 0 then chkErr fs else if 64 < n then 8 else 0
theorem parkCheckL (A B : Option Addr) (fs : List Fen) (ps : List Pho) (ca cb : Nat) (p : Park) (w0 : World) (hz : FensAt w0 A fs) (hl : ps.length ≤ maxLen) :
    Calls Tryz.prog 10 #[.slice A fs.length ca, .slice B ps.length cb, .agg (parkCells p).toArray] w0 fun e w' => e = .returned (I (judgeErr fs ps.length p)) ∧ Below w0.heap.size w0 w' := by
  have H := SH.refl w0
  refine Calls.ofWP Tryz.func10 rfl Tryz.results10 Tryz.ntmps10 rfl ?_
  refine WP.seq ?_
  refine WP.region ?_
  refine OPS.box rfl rfl rfl rfl (cA rfl) H ?_
  clear H; intro g5 w H
  refine OPS.val rfl rfl rfl (Ev.asI rfl) ?_
  refine OPS.nil ?_
  refine WP.seq ?_
  refine WP.seq ?_
  refine WP.region ?_
  refine OPS.val rfl rfl rfl ((by exact Ev.loadO 0 H rfl (agg_run rfl) (size_run rfl) (by rfl) rfl)) ?_
  refine OPS.call (d := some 10) rfl rfl rfl (EvC.func (fun_run rfl)) (parkCheck p w) ?_
  rintro _ w ⟨rfl, hb⟩
  refine ⟨_, rfl, ?_⟩
  replace H := H.toBelow hb; clear hb
  refine OPS.val rfl rfl rfl (Ev.asI rfl) ?_
  refine OPS.nil ?_
  refine WP.seq ?_
  refine WP.region ?_
  refine OPS.val rfl rfl rfl (Ev.mvI rfl) ?_
  refine OPS.val rfl rfl rfl (Ev.neq rfl rfl) ?_
  refine OPS.nil ?_
  refine WP.cond rfl (fun hc2 => ?_) (fun hc2 => ?_)
  · refine WP.seq ?_
    refine WP.region ?_
    refine OPS.val rfl rfl rfl (Ev.mvI rfl) ?_
    refine OPS.val rfl rfl rfl (Ev.asI rfl) ?_
    refine OPS.nil ?_
    refine WP.ret ⟨_, rfl, ?_⟩
    have h1 : parkErr p ≠ 0 := by simpa using hc2
    exact ⟨ret_int (by rw [judgeErr, if_pos h1]), H.below⟩
  have h1 : ¬ parkErr p ≠ 0 := by simpa using hc2
  refine WP.skip ?_
  refine WP.seq ?_
  refine WP.seq ?_
  refine WP.region ?_
  refine OPS.val rfl rfl rfl (Ev.mvS rfl) ?_
  refine OPS.call (d := some 15) rfl rfl rfl (EvC.func (fun_run rfl)) (fenCheck A fs ca w (hz.sh H)) ?_
  rintro _ w ⟨rfl, hb⟩
  refine ⟨_, rfl, ?_⟩
  replace H := H.toBelow hb; clear hb
  refine OPS.val rfl rfl rfl (Ev.asI rfl) ?_
  refine OPS.nil ?_
  refine WP.seq ?_
  refine WP.region ?_
  refine OPS.val rfl rfl rfl (Ev.mvI rfl) ?_
  refine OPS.val rfl rfl rfl (Ev.neq rfl rfl) ?_
  refine OPS.nil ?_
  refine WP.cond rfl (fun hc5 => ?_) (fun hc5 => ?_)
  · refine WP.seq ?_
    refine WP.region ?_
    refine OPS.val rfl rfl rfl (Ev.mvI rfl) ?_
    refine OPS.val rfl rfl rfl (Ev.asI rfl) ?_
    refine OPS.nil ?_
    refine WP.ret ⟨_, rfl, ?_⟩
    have h2 : chkErr fs ≠ 0 := by simpa using hc5
    exact ⟨ret_int (by rw [judgeErr, if_neg h1, if_pos h2]), H.below⟩
  have h2 : ¬ chkErr fs ≠ 0 := by simpa using hc5
  refine WP.skip ?_
  refine WP.seq ?_
  refine WP.seq ?_
  refine WP.region ?_
  refine OPS.val rfl rfl rfl (Ev.mvS rfl) ?_
  refine OPS.val rfl rfl rfl (Ev.len (el_run rfl) rfl) ?_
  refine OPS.val rfl rfl rfl (Ev.gtr rfl rfl) ?_
  refine OPS.nil ?_
  refine WP.cond rfl (fun hc7 => ?_) (fun hc7 => ?_)
  · refine WP.seq ?_
    refine WP.region ?_
    refine OPS.val rfl rfl rfl (Ev.asI rfl) ?_
    refine OPS.nil ?_
    refine WP.ret ⟨_, rfl, ?_⟩
    have h3 : 64 < ps.length := by simp at hc7; omega
    exact ⟨ret_int (by rw [judgeErr, if_neg h1, if_neg h2, if_pos h3]), H.below⟩
  refine WP.skip ?_
  refine WP.seq ?_
  refine WP.region ?_
  refine OPS.val rfl rfl rfl (Ev.asI rfl) ?_
  refine OPS.nil ?_
  refine WP.ret ⟨_, rfl, ?_⟩
  have h3 : ¬ 64 < ps.length := by simp at hc7; omega
  exact ⟨ret_int (by rw [judgeErr, if_neg h1, if_neg h2, if_neg h3]), H.below⟩
/-- the number of the first of a list for which a function holds -/
structure Idx {α : Type} (tst : α → Bool) (l : List α) (n : Int) : Prop where
  out : (n = -1 ∧ ∀ x ∈ l, tst x = false) ∨ ∃ (i : Nat) (h : i < l.length), n = i ∧ tst l[i] = true
theorem Idx.any {α : Type} {tst : α → Bool} {l : List α} {n : Int} (h : Idx tst l n) : decide (0 ≤ n) = l.any tst := by
  rcases h.out with ⟨rfl, h1⟩ | ⟨i, hi, rfl, h1⟩
  · rw [List.any_eq_false.2 (fun x hx => by rw [h1 x hx]; simp)]; rfl
  · rw [List.any_eq_true.2 ⟨_, List.getElem_mem hi, h1⟩]; simp
theorem slIndexP (A : Option Addr) (ps : List Pho) (cap F : Nat) (caps : List Value) (tst : Pho → Bool) (w0 : World) (hfun : funT F = true) (hz : PhosAt w0 A ps)
    (his : ∀ p ∈ ps, ∀ w, Below w0.heap.size w0 w → Calls Tryz.prog F ([Value.agg (phoCells p).toArray] ++ caps).toArray w fun e w' => e = .returned (.bool (tst p)) ∧ Below w.heap.size w w') :
    Calls Tryz.prog 77 #[.slice A ps.length cap, .func (.func F) #[] caps.toArray] w0 fun e w' => ∃ n, e = .returned (I n) ∧ Idx tst ps n ∧ Below w0.heap.size w0 w' := by
  have H := SH.refl w0
  refine Calls.ofWP Tryz.func77 rfl Tryz.results77 Tryz.ntmps77 rfl ?_
  refine WP.seq ?_
  refine WP.region ?_
  refine OPS.val rfl rfl rfl (Ev.asI rfl) ?_
  refine OPS.nil ?_
  refine WP.seq ?_
  refine WP.seq ?_
  refine WP.region ?_
  refine OPS.val rfl rfl rfl (Ev.mvS rfl) ?_
  refine OPS.val rfl rfl rfl (Ev.len (el_run rfl) rfl) ?_
  refine OPS.val rfl rfl rfl (Ev.mvI rfl) ?_
  refine OPS.nil ?_
  refine WP.block ?_
  refine WP.loop [4, 5, 8, 9, 10, 11, 12, 13, 14, 15, 16, 17, 18] (fun k e w' => ∃ (i : Nat), i + k = ps.length ∧ e 8 = I i ∧ (∀ j (h : j < ps.length), j < i → tst ps[j] = false) ∧ SH w0 [] w' []) (ps.length) (⟨0, by omega, rfl, (fun j _ h => absurd h (by omega)), H⟩) ?_
  clear H
  rintro k u w ⟨i, hk, h8, hno, H⟩
  refine WP.know (t := 8) h8 ?_
  refine WP.seq ?_
  refine WP.region ?_
  refine OPS.val rfl rfl rfl (Ev.lss rfl rfl) ?_
  refine OPS.nil ?_
  refine WP.seq ?_
  refine WP.cond rfl (fun hc2 => ?_) (fun hc2 => ?_)
  · have hlt : i < ps.length := by simpa using hc2
    obtain ⟨b, o, rfl, hcx⟩ := hz.rows i hlt
    have hmem := List.getElem_mem hlt
    have hc' := cellsAt_sh H hcx
    have hl := hz.len
    unfold maxLen at hl
    obtain ⟨x, hx⟩ : ∃ x, x = ps[i] := ⟨_, rfl⟩
    rw [← hx] at hc' hmem
    refine WP.skip ?_
    refine WP.seq ?_
    refine WP.block ?_
    refine WP.seq ?_
    refine WP.region ?_
    refine OPS.val rfl rfl rfl (Ev.mvI rfl) ?_
    refine OPS.val rfl rfl rfl (Ev.asI rfl) ?_
    refine OPS.nil ?_
    refine WP.seq ?_
    refine WP.region ?_
    refine OPS.val rfl rfl rfl (Ev.mvF rfl) ?_
    refine OPS.val rfl rfl rfl (Ev.mvS rfl) ?_
    refine OPS.val rfl rfl rfl (Ev.mvI rfl) ?_
    refine OPS.val rfl rfl rfl ((by exact Ev.indexAddr (el_run rfl) (size_run rfl) rfl rfl rfl (by omega))) ?_
    refine OPS.val rfl rfl rfl ((by (change Ev _ _ _ _ (Op.load 72 (Operand.tmp 14)) _; exact Ev.loadN (phoCells x) (agg_run rfl) (size_run rfl) rfl hc'))) ?_
    refine OPS.call (d := some 16) rfl rfl rfl (EvC.clos rfl (fun_run (by assumption))) (his x hmem w H.below) ?_
    rintro _ w ⟨rfl, hb⟩
    refine ⟨_, rfl, ?_⟩
    replace H := H.toBelow hb; clear hb
    refine OPS.nil ?_
    refine WP.cond rfl (fun hc4 => ?_) (fun hc4 => ?_)
    · refine WP.seq ?_
      refine WP.region ?_
      refine OPS.val rfl rfl rfl (Ev.mvI rfl) ?_
      refine OPS.val rfl rfl rfl (Ev.asI rfl) ?_
      refine OPS.nil ?_
      refine WP.ret ⟨_, rfl, ?_⟩
      exact ⟨_, rfl, ⟨.inr ⟨i, hlt, rfl, by rw [← hx]; exact hc4⟩⟩, H.below⟩
    have hf : tst x = false := hc4
    refine WP.skip ?_
    refine WP.region ?_
    refine OPS.val rfl rfl rfl (Ev.add rfl rfl (by unfold fits; omega)) ?_
    refine OPS.val rfl rfl rfl (Ev.mvI rfl) ?_
    refine OPS.nil ?_
    refine ⟨(by repeat (first | exact Agree.refl _ _ | exact Agree.mix _ _ _ | refine Agree.upd rfl ?_ | refine Agree.mix2 rfl ?_)), k - 1, by omega, i + 1, by omega, rfl, (fun j hj hji => ?_), H⟩
    by_cases he : j = i
    · subst he; rw [← hx]; exact hf
    · exact hno j hj (by omega)
  refine WP.exit ?_
  refine XB.hit ?_
  refine WP.seq ?_
  refine WP.region ?_
  refine OPS.val rfl rfl rfl (Ev.asI rfl) ?_
  refine OPS.nil ?_
  refine WP.ret ⟨_, rfl, ?_⟩
  refine ⟨_, rfl, ⟨.inl ⟨rfl, fun x hx => ?_⟩⟩, H.below⟩
  obtain ⟨j, hj, rfl⟩ := List.getElem_of_mem hx
  exact hno j hj (by simp at hc2; omega)
theorem slIndexF (A : Option Addr) (ps : List Fen) (cap F : Nat) (caps : List Value) (tst : Fen → Bool) (w0 : World) (hfun : funT F = true) (hz : FensAt w0 A ps)
    (his : ∀ p ∈ ps, ∀ w, Below w0.heap.size w0 w → Calls Tryz.prog F ([Value.agg (fenCells p).toArray] ++ caps).toArray w fun e w' => e = .returned (.bool (tst p)) ∧ Below w.heap.size w w') :
    Calls Tryz.prog 122 #[.slice A ps.length cap, .func (.func F) #[] caps.toArray] w0 fun e w' => ∃ n, e = .returned (I n) ∧ Idx tst ps n ∧ Below w0.heap.size w0 w' := by
  have H := SH.refl w0
  refine Calls.ofWP Tryz.func122 rfl Tryz.results122 Tryz.ntmps122 rfl ?_
  refine WP.seq ?_
  refine WP.region ?_
  refine OPS.val rfl rfl rfl (Ev.asI rfl) ?_
  refine OPS.nil ?_
  refine WP.seq ?_
  refine WP.seq ?_
  refine WP.region ?_
  refine OPS.val rfl rfl rfl (Ev.mvS rfl) ?_
  refine OPS.val rfl rfl rfl (Ev.len (el_run rfl) rfl) ?_
  refine OPS.val rfl rfl rfl (Ev.mvI rfl) ?_
  refine OPS.nil ?_
  refine WP.block ?_
  refine WP.loop [4, 5, 8, 9, 10, 11, 12, 13, 14, 15, 16, 17, 18] (fun k e w' => ∃ (i : Nat), i + k = ps.length ∧ e 8 = I i ∧ (∀ j (h : j < ps.length), j < i → tst ps[j] = false) ∧ SH w0 [] w' []) (ps.length) (⟨0, by omega, rfl, (fun j _ h => absurd h (by omega)), H⟩) ?_
  clear H
  rintro k u w ⟨i, hk, h8, hno, H⟩
  refine WP.know (t := 8) h8 ?_
  refine WP.seq ?_
  refine WP.region ?_
  refine OPS.val rfl rfl rfl (Ev.lss rfl rfl) ?_
  refine OPS.nil ?_
  refine WP.seq ?_
  refine WP.cond rfl (fun hc2 => ?_) (fun hc2 => ?_)
  · have hlt : i < ps.length := by simpa using hc2
    obtain ⟨b, o, rfl, hcx⟩ := hz.rows i hlt
    have hmem := List.getElem_mem hlt
    have hc' := cellsAt_sh H hcx
    have hl := hz.len
    unfold maxLen at hl
    obtain ⟨x, hx⟩ : ∃ x, x = ps[i] := ⟨_, rfl⟩
    rw [← hx] at hc' hmem
    refine WP.skip ?_
    refine WP.seq ?_
    refine WP.block ?_
    refine WP.seq ?_
    refine WP.region ?_
    refine OPS.val rfl rfl rfl (Ev.mvI rfl) ?_
    refine OPS.val rfl rfl rfl (Ev.asI rfl) ?_
    refine OPS.nil ?_
    refine WP.seq ?_
    refine WP.region ?_
    refine OPS.val rfl rfl rfl (Ev.mvF rfl) ?_
    refine OPS.val rfl rfl rfl (Ev.mvS rfl) ?_
    refine OPS.val rfl rfl rfl (Ev.mvI rfl) ?_
    refine OPS.val rfl rfl rfl ((by exact Ev.indexAddr (el_run rfl) (size_run rfl) rfl rfl rfl (by omega))) ?_
    refine OPS.val rfl rfl rfl ((by (change Ev _ _ _ _ (Op.load 42 (Operand.tmp 14)) _; exact Ev.loadN (fenCells x) (agg_run rfl) (size_run rfl) rfl hc'))) ?_
    refine OPS.call (d := some 16) rfl rfl rfl (EvC.clos rfl (fun_run (by assumption))) (his x hmem w H.below) ?_
    rintro _ w ⟨rfl, hb⟩
    refine ⟨_, rfl, ?_⟩
    replace H := H.toBelow hb; clear hb
    refine OPS.nil ?_
    refine WP.cond rfl (fun hc4 => ?_) (fun hc4 => ?_)
    · refine WP.seq ?_
      refine WP.region ?_
      refine OPS.val rfl rfl rfl (Ev.mvI rfl) ?_
      refine OPS.val rfl rfl rfl (Ev.asI rfl) ?_
      refine OPS.nil ?_
      refine WP.ret ⟨_, rfl, ?_⟩
      exact ⟨_, rfl, ⟨.inr ⟨i, hlt, rfl, by rw [← hx]; exact hc4⟩⟩, H.below⟩
    have hf : tst x = false := hc4
    refine WP.skip ?_
    refine WP.region ?_
    refine OPS.val rfl rfl rfl (Ev.add rfl rfl (by unfold fits; omega)) ?_
    refine OPS.val rfl rfl rfl (Ev.mvI rfl) ?_
    refine OPS.nil ?_
    refine ⟨(by repeat (first | exact Agree.refl _ _ | exact Agree.mix _ _ _ | refine Agree.upd rfl ?_ | refine Agree.mix2 rfl ?_)), k - 1, by omega, i + 1, by omega, rfl, (fun j hj hji => ?_), H⟩
    by_cases he : j = i
    · subst he; rw [← hx]; exact hf
    · exact hno j hj (by omega)
  refine WP.exit ?_
  refine XB.hit ?_
  refine WP.seq ?_
  refine WP.region ?_
  refine OPS.val rfl rfl rfl (Ev.asI rfl) ?_
  refine OPS.nil ?_
  refine WP.ret ⟨_, rfl, ?_⟩
  refine ⟨_, rfl, ⟨.inl ⟨rfl, fun x hx => ?_⟩⟩, H.below⟩
  obtain ⟨j, hj, rfl⟩ := List.getElem_of_mem hx
  exact hno j hj (by simp at hc2; omega)
theorem slContainsP (A : Option Addr) (ps : List Pho) (cap F : Nat) (caps : List Value) (tst : Pho → Bool) (w0 : World) (hfun : funT F = true) (hz : PhosAt w0 A ps)
    (his : ∀ p ∈ ps, ∀ w, Below w0.heap.size w0 w → Calls Tryz.prog F ([Value.agg (phoCells p).toArray] ++ caps).toArray w fun e w' => e = .returned (.bool (tst p)) ∧ Below w.heap.size w w') :
    Calls Tryz.prog 39 #[.slice A ps.length cap, .func (.func F) #[] caps.toArray] w0 fun e w' => e = .returned (.bool (ps.any tst)) ∧ Below w0.heap.size w0 w' := by
  have H := SH.refl w0
  refine Calls.ofWP Tryz.func39 rfl Tryz.results39 Tryz.ntmps39 rfl ?_
  refine WP.seq ?_
  refine WP.region ?_
  refine OPS.val rfl rfl rfl (Ev.asB rfl) ?_
  refine OPS.nil ?_
  refine WP.seq ?_
  refine WP.region ?_
  refine OPS.val rfl rfl rfl (Ev.mvS rfl) ?_
  refine OPS.val rfl rfl rfl (Ev.mvF rfl) ?_
  refine OPS.call (d := some 7) rfl rfl rfl (EvC.func (fun_run rfl)) (slIndexP A ps cap F caps tst w0 hfun hz his) ?_
  rintro _ w ⟨n, rfl, hn, hb⟩
  refine ⟨_, rfl, ?_⟩
  replace H := H.toBelow hb
  refine OPS.val rfl rfl rfl (Ev.geq rfl rfl) ?_
  refine OPS.val rfl rfl rfl (Ev.asB rfl) ?_
  refine OPS.nil ?_
  refine WP.ret ⟨_, rfl, ?_⟩
  exact ⟨ret_b rfl hn.any, H.below⟩
theorem slContainsF (A : Option Addr) (ps : List Fen) (cap F : Nat) (caps : List Value) (tst : Fen → Bool) (w0 : World) (hfun : funT F = true) (hz : FensAt w0 A ps)
    (his : ∀ p ∈ ps, ∀ w, Below w0.heap.size w0 w → Calls Tryz.prog F ([Value.agg (fenCells p).toArray] ++ caps).toArray w fun e w' => e = .returned (.bool (tst p)) ∧ Below w.heap.size w w') :
    Calls Tryz.prog 72 #[.slice A ps.length cap, .func (.func F) #[] caps.toArray] w0 fun e w' => e = .returned (.bool (ps.any tst)) ∧ Below w0.heap.size w0 w' := by
  have H := SH.refl w0
  refine Calls.ofWP Tryz.func72 rfl Tryz.results72 Tryz.ntmps72 rfl ?_
  refine WP.seq ?_
  refine WP.region ?_
  refine OPS.val rfl rfl rfl (Ev.asB rfl) ?_
  refine OPS.nil ?_
  refine WP.seq ?_
  refine WP.region ?_
  refine OPS.val rfl rfl rfl (Ev.mvS rfl) ?_
  refine OPS.val rfl rfl rfl (Ev.mvF rfl) ?_
  refine OPS.call (d := some 7) rfl rfl rfl (EvC.func (fun_run rfl)) (slIndexF A ps cap F caps tst w0 hfun hz his) ?_
  rintro _ w ⟨n, rfl, hn, hb⟩
  refine ⟨_, rfl, ?_⟩
  replace H := H.toBelow hb
  refine OPS.val rfl rfl rfl (Ev.geq rfl rfl) ?_
  refine OPS.val rfl rfl rfl (Ev.asB rfl) ?_
  refine OPS.nil ?_
  refine WP.ret ⟨_, rfl, ?_⟩
  exact ⟨ret_b rfl hn.any, H.below⟩
end Go.Proofs.YtjgdklhbegplfaaGreat

/-
  Walks: the verdict on a parked bicycle.
-/
set_option linter.all false
namespace Go.Proofs.YtjgdklhbegplfaaGreat
open Go Go.W Go.RowKit

def someB (n t : Int) (f : Fen) : Bool := decide (f.kind = n) && activeB f t
theorem parkRel1 (f : Fen) (gn gp : Nat) (n t : Int) (w0 : World) (hn : w0.cell? ⟨gn, 0, none⟩ = some (I n)) (ht : w0.cell? ⟨gp, 0 + 2, none⟩ = some (I t)) :
    Calls Tryz.prog 73 #[.agg (fenCells f).toArray, .pointer (some ⟨gn, 0, none⟩), .pointer (some ⟨gp, 0, none⟩)] w0 fun e w' => e = .returned (.bool (someB n t f)) ∧ Below w0.heap.size w0 w' := by
  have H := SH.refl w0
  refine Calls.ofWP Tryz.func73 rfl Tryz.results73 Tryz.ntmps73 rfl ?_
  refine WP.seq ?_
  refine WP.region ?_
  refine OPS.box rfl rfl rfl rfl (cA rfl) H ?_
  clear H; intro g3 w H
  refine OPS.val rfl rfl rfl (Ev.asB rfl) ?_
  refine OPS.nil ?_
  refine WP.seq ?_
  refine WP.region ?_
  refine OPS.val rfl rfl rfl (Ev.fieldAddr (fld_run rfl) rfl) ?_
  refine OPS.val rfl rfl rfl (Ev.load1 (agg_run rfl) rfl (by exact H.ldL 0 rfl _ rfl)) ?_
  refine OPS.val rfl rfl rfl (Ev.load1 (agg_run rfl) rfl (by exact H.ld0 (by assumption))) ?_
  refine OPS.val rfl rfl rfl (Ev.eql rfl rfl) ?_
  refine OPS.val rfl rfl rfl (Ev.mvB rfl) ?_
  refine OPS.gval rfl rfl rfl rfl rfl (fun hg => (by exact Ev.loadO 0 H rfl (agg_run rfl) (size_run rfl) (by rfl) rfl)) ?_
  refine OPS.gval rfl rfl rfl rfl rfl (fun hg => Ev.fieldAddr (fld_run rfl) (by rfl)) ?_
  refine OPS.gval rfl rfl rfl rfl rfl (fun hg => Ev.load1 (agg_run rfl) (by exact gvE hg rfl) (by exact H.ld0 (by assumption))) ?_
  refine OPS.gcall0 (f := 74) (fenActive f t w) (fun _ _ h => h) rfl rfl rfl rfl rfl (fun hg => EvC.conv (EvC.func (fun_run rfl)) (l2 (by exact gvE hg rfl) (by exact gvE hg rfl))) ?_
  intro w hbc; replace H := H.toBelow hbc
  refine OPS.val rfl rfl rfl ((by exact Ev.pickAnd rfl rfl rfl)) ?_
  refine OPS.val rfl rfl rfl (Ev.asB rfl) ?_
  refine OPS.nil ?_
  refine WP.ret ⟨_, rfl, ?_⟩
  exact ⟨rfl, H.below⟩
def someN (fs : List Fen) (n : Int) (p : Park) : Bool := fs.any (someB n p.t)
def touchN (fs : List Fen) (n : Int) (p : Park) : Bool := decide ((0 : Int) < ((selL fs n p.p p.r p.t (touchF p.p p.r)).length : Int))
def coverN (fs : List Fen) (n : Int) (p : Park) : Bool := decide ((0 : Int) < ((selL fs n p.p p.r p.t (coverF p.p p.r)).length : Int))
theorem parkRelation (A : Option Addr) (fs : List Fen) (cap : Nat) (n : Int) (p : Park) (w0 : World) (hz : FensAt w0 A fs) :
    Calls Tryz.prog 38 #[.slice A fs.length cap, I n, .agg (parkCells p).toArray] w0 fun e w' => e = .returned (.tuple #[.bool (someN fs n p), .bool (touchN fs n p), .bool (coverN fs n p)]) ∧ Below w0.heap.size w0 w' := by
  have H := SH.refl w0
  refine Calls.ofWP Tryz.func38 rfl Tryz.results38 Tryz.ntmps38 rfl ?_
  refine WP.seq ?_
  refine WP.region ?_
  refine OPS.box rfl rfl rfl rfl (cI rfl) H ?_
  clear H; intro g4 w H
  refine OPS.box rfl rfl rfl rfl (cA rfl) H ?_
  clear H; intro g5 w H
  refine OPS.val rfl rfl rfl (Ev.asB rfl) ?_
  refine OPS.val rfl rfl rfl (Ev.asB rfl) ?_
  refine OPS.val rfl rfl rfl (Ev.asB rfl) ?_
  refine OPS.nil ?_
  unfold parkCells at H
  refine WP.seq ?_
  refine WP.region ?_
  refine OPS.val rfl rfl rfl (Ev.mvS rfl) ?_
  refine OPS.val rfl rfl rfl (Ev.makeFunc) ?_
  refine OPS.call (d := some 15) rfl rfl rfl (EvC.func (fun_run rfl)) (slContainsF A fs cap 73 [.pointer (some ⟨g4, 0, none⟩), .pointer (some ⟨g5, 0, none⟩)] (someB n p.t) w rfl (hz.sh H) (fun f hf w' hb => parkRel1 f g4 g5 n p.t w' (cell_below hb (H.ldL 1 rfl 0 rfl)) (cell_below hb (H.ldL 0 rfl 2 rfl)))) ?_
  rintro _ w ⟨rfl, hb⟩
  refine ⟨_, rfl, ?_⟩
  replace H := H.toBelow hb; clear hb
  refine OPS.val rfl rfl rfl (Ev.asB rfl) ?_
  refine OPS.nil ?_
  refine WP.seq ?_
  refine WP.region ?_
  refine OPS.val rfl rfl rfl (Ev.mvS rfl) ?_
  refine OPS.val rfl rfl rfl (Ev.load1 (agg_run rfl) rfl (by exact H.ldL 1 rfl _ rfl)) ?_
  refine OPS.val rfl rfl rfl (Ev.fieldAddr (fld_run rfl) rfl) ?_
  refine OPS.val rfl rfl rfl ((by exact Ev.loadN [_, _] (agg_run rfl) (size_run rfl) rfl ⟨H.ldL 0 rfl _ rfl, H.ldL 0 rfl _ rfl, trivial⟩)) ?_
  refine OPS.val rfl rfl rfl (Ev.fieldAddr (fld_run rfl) rfl) ?_
  refine OPS.val rfl rfl rfl (Ev.load1 (agg_run rfl) rfl (by exact H.ldL 0 rfl _ rfl)) ?_
  refine OPS.val rfl rfl rfl (Ev.fieldAddr (fld_run rfl) rfl) ?_
  refine OPS.val rfl rfl rfl (Ev.load1 (agg_run rfl) rfl (by exact H.ldL 0 rfl _ rfl)) ?_
  refine OPS.call (d := some 25) rfl rfl rfl (EvC.func (fun_run rfl)) (fenPossible A fs cap n p.p p.r p.t w (hz.sh H)) ?_
  rintro _ w ⟨S, c, L, rfl, hR, Hc⟩
  refine ⟨_, rfl, ?_⟩
  replace H := SH.call (Lv := []) (by rw [List.append_nil]; exact H) Hc
  clear Hc
  replace H := H.drop (List.sublist_append_left _ _)
  refine OPS.val rfl rfl rfl (Ev.mvT rfl) ?_
  refine OPS.val rfl rfl rfl (Ev.extract rfl rfl) ?_
  refine OPS.val rfl rfl rfl (Ev.extract rfl rfl) ?_
  refine OPS.val rfl rfl rfl (Ev.asS rfl) ?_
  refine OPS.val rfl rfl rfl (Ev.asI rfl) ?_
  refine OPS.nil ?_
  refine WP.seq ?_
  refine WP.region ?_
  refine OPS.val rfl rfl rfl (Ev.mvS rfl) ?_
  refine OPS.val rfl rfl rfl (Ev.load1 (agg_run rfl) rfl (by exact H.ldL 1 rfl _ rfl)) ?_
  refine OPS.val rfl rfl rfl (Ev.fieldAddr (fld_run rfl) rfl) ?_
  refine OPS.val rfl rfl rfl ((by exact Ev.loadN [_, _] (agg_run rfl) (size_run rfl) rfl ⟨H.ldL 0 rfl _ rfl, H.ldL 0 rfl _ rfl, trivial⟩)) ?_
  refine OPS.val rfl rfl rfl (Ev.fieldAddr (fld_run rfl) rfl) ?_
  refine OPS.val rfl rfl rfl (Ev.load1 (agg_run rfl) rfl (by exact H.ldL 0 rfl _ rfl)) ?_
  refine OPS.val rfl rfl rfl (Ev.fieldAddr (fld_run rfl) rfl) ?_
  refine OPS.val rfl rfl rfl (Ev.load1 (agg_run rfl) rfl (by exact H.ldL 0 rfl _ rfl)) ?_
  refine OPS.call (d := some 37) rfl rfl rfl (EvC.func (fun_run rfl)) (fenSure A fs cap n p.p p.r p.t w (hz.sh H)) ?_
  rintro _ w ⟨S2, c2, L2, rfl, hR2, Hc⟩
  refine ⟨_, rfl, ?_⟩
  replace H := SH.call (Lv := []) (by rw [List.append_nil]; exact H) Hc
  clear Hc
  replace H := H.drop (List.sublist_append_left _ _)
  refine OPS.val rfl rfl rfl (Ev.mvT rfl) ?_
  refine OPS.val rfl rfl rfl (Ev.extract rfl rfl) ?_
  refine OPS.val rfl rfl rfl (Ev.extract rfl rfl) ?_
  refine OPS.val rfl rfl rfl (Ev.asS rfl) ?_
  refine OPS.val rfl rfl rfl (Ev.asI rfl) ?_
  refine OPS.nil ?_
  refine WP.seq ?_
  refine WP.region ?_
  refine OPS.val rfl rfl rfl (Ev.mvB rfl) ?_
  refine OPS.val rfl rfl rfl (Ev.mvS rfl) ?_
  refine OPS.val rfl rfl rfl (Ev.len (el_run rfl) rfl) ?_
  refine OPS.val rfl rfl rfl (Ev.gtr rfl rfl) ?_
  refine OPS.val rfl rfl rfl (Ev.mvS rfl) ?_
  refine OPS.val rfl rfl rfl (Ev.len (el_run rfl) rfl) ?_
  refine OPS.val rfl rfl rfl (Ev.gtr rfl rfl) ?_
  refine OPS.val rfl rfl rfl (Ev.asB rfl) ?_
  refine OPS.val rfl rfl rfl (Ev.asB rfl) ?_
  refine OPS.val rfl rfl rfl (Ev.asB rfl) ?_
  refine OPS.nil ?_
  refine WP.ret ⟨_, rfl, ?_⟩
  exact ⟨rfl, H.below⟩
def countB (p : Park) (x : Pho) : Bool := (decide (x.ride = p.ride) && inB x.at_ (p.t - 300) (p.t + 300)) && usableB x
theorem parkJudge1 (x : Pho) (g : Nat) (p : Park) (w0 : World) (hx : PhoAt w0 x) (ht : 0 ≤ p.t ∧ p.t ≤ 4294943999) (h0 : w0.cell? ⟨g, 0 + 0, none⟩ = some (I p.ride)) (h2 : w0.cell? ⟨g, 0 + 2, none⟩ = some (I p.t)) :
    Calls Tryz.prog 35 #[.agg (phoCells x).toArray, .pointer (some ⟨g, 0, none⟩)] w0 fun e w' => e = .returned (.bool (countB p x)) ∧ Below w0.heap.size w0 w' := by
  have H := SH.refl w0
  refine Calls.ofWP Tryz.func35 rfl Tryz.results35 Tryz.ntmps35 rfl ?_
  refine WP.seq ?_
  refine WP.region ?_
  refine OPS.box rfl rfl rfl rfl (cA rfl) H ?_
  clear H; intro g2 w H
  refine OPS.val rfl rfl rfl (Ev.asB rfl) ?_
  refine OPS.nil ?_
  refine WP.seq ?_
  refine WP.region ?_
  refine OPS.val rfl rfl rfl (Ev.fieldAddr (fld_run rfl) rfl) ?_
  refine OPS.val rfl rfl rfl (Ev.load1 (agg_run rfl) rfl (by exact H.ldL 0 rfl _ rfl)) ?_
  refine OPS.val rfl rfl rfl (Ev.fieldAddr (fld_run rfl) rfl) ?_
  refine OPS.val rfl rfl rfl (Ev.load1 (agg_run rfl) rfl (by exact H.ld0 (by assumption))) ?_
  refine OPS.val rfl rfl rfl (Ev.eql rfl rfl) ?_
  refine OPS.val rfl rfl rfl (Ev.mvB rfl) ?_
  refine OPS.gval rfl rfl rfl rfl rfl (fun hg => Ev.fieldAddr (fld_run rfl) (by rfl)) ?_
  refine OPS.gval rfl rfl rfl rfl rfl (fun hg => Ev.load1 (agg_run rfl) (by exact gvE hg rfl) (by exact H.ldL 0 rfl _ rfl)) ?_
  refine OPS.gval rfl rfl rfl rfl rfl (fun hg => Ev.fieldAddr (fld_run rfl) (by rfl)) ?_
  refine OPS.gval rfl rfl rfl rfl rfl (fun hg => Ev.load1 (agg_run rfl) (by exact gvE hg rfl) (by exact H.ld0 (by assumption))) ?_
  refine OPS.gval rfl rfl rfl rfl rfl (fun hg => Ev.sub (by exact gvE hg rfl) (by rfl) (by unfold fits; omega)) ?_
  refine OPS.gval rfl rfl rfl rfl rfl (fun hg => Ev.fieldAddr (fld_run rfl) (by rfl)) ?_
  refine OPS.gval rfl rfl rfl rfl rfl (fun hg => Ev.load1 (agg_run rfl) (by exact gvE hg rfl) (by exact H.ld0 (by assumption))) ?_
  refine OPS.gval rfl rfl rfl rfl rfl (fun hg => Ev.add (by exact gvE hg rfl) (by rfl) (by unfold fits; omega)) ?_
  refine OPS.gcall0 (f := 36) (parkIn x.at_ (p.t - 300) (p.t + 300) w) (fun _ _ h => h) rfl rfl rfl rfl rfl (fun hg => EvC.conv (EvC.func (fun_run rfl)) (l3 (by exact gvE hg rfl) (by exact gvE hg rfl) (by exact gvE hg rfl))) ?_
  intro w hbc; replace H := H.toBelow hbc
  refine OPS.val rfl rfl rfl ((by exact Ev.pickAnd rfl rfl rfl)) ?_
  refine OPS.val rfl rfl rfl (Ev.mvB rfl) ?_
  refine OPS.gval rfl rfl rfl rfl rfl (fun hg => (by exact Ev.loadO 0 H rfl (agg_run rfl) (size_run rfl) (by rfl) rfl)) ?_
  refine OPS.gcall0 (f := 37) (phoUsable x w ((hx.below H.below))) (fun _ _ h => h) rfl rfl rfl rfl rfl (fun hg => EvC.conv (EvC.func (fun_run rfl)) (l1 (by exact gvE hg rfl))) ?_
  intro w hbc; replace H := H.toBelow hbc
  refine OPS.val rfl rfl rfl ((by exact Ev.pickAnd rfl rfl rfl)) ?_
  refine OPS.val rfl rfl rfl (Ev.asB rfl) ?_
  refine OPS.nil ?_
  refine WP.ret ⟨_, rfl, ?_⟩
  exact ⟨rfl, H.below⟩
def judgeK (fs : List Fen) (ps : List Pho) (p : Park) : Int :=
  if coverN fs 1 p = true then 2 else if (someN fs 2 p && !touchN fs 2 p) = true then 2 else if (!touchN fs 1 p && (coverN fs 2 p || !someN fs 2 p)) = true then 1 else if ps.any (countB p) = true then 1 else 3
def verC (p : Park) (k : Int) : List Value := [I p.ride, I p.rider, I p.t, I k]
theorem parkJudge (A B : Option Addr) (fs : List Fen) (ps : List Pho) (ca cb : Nat) (p : Park) (w0 : World) (hz : FensAt w0 A fs) (hp : PhosAt w0 B ps) (ht : 0 ≤ p.t ∧ p.t ≤ 4294943999) :
    Calls Tryz.prog 11 #[.slice A fs.length ca, .slice B ps.length cb, .agg (parkCells p).toArray] w0 fun e w' => e = .returned (.agg (verC p (judgeK fs ps p)).toArray) ∧ Below w0.heap.size w0 w' := by
  have H := SH.refl w0
  refine Calls.ofWPc Tryz.func11 rfl Tryz.results11 Tryz.ntmps11 rfl ?_
  refine WP.seq ?_
  refine WP.region ?_
  refine OPS.box rfl rfl rfl rfl (cA rfl) H ?_
  clear H; intro g5 w H
  refine OPS.alloc rfl rfl rfl rfl (zero_run rfl) rfl H ?_
  clear H; intro g6 w H
  refine OPS.nil ?_
  unfold parkCells at H
  refine WP.seq ?_
  refine WP.region ?_
  refine OPS.val rfl rfl rfl (Ev.makeFunc) ?_
  refine OPS.val rfl rfl rfl (Ev.asF rfl) ?_
  refine OPS.nil ?_
  refine WP.seq ?_
  refine WP.region ?_
  refine OPS.val rfl rfl rfl (Ev.mvS rfl) ?_
  refine OPS.val rfl rfl rfl ((by exact Ev.loadO 1 H rfl (agg_run rfl) (size_run rfl) (by rfl) rfl)) ?_
  refine OPS.call (d := some 19) rfl rfl rfl (EvC.func (fun_run rfl)) (parkRelation A fs ca 1 p w (hz.sh H)) ?_
  rintro _ w ⟨rfl, hb⟩
  refine ⟨_, rfl, ?_⟩
  replace H := H.toBelow hb; clear hb
  refine OPS.val rfl rfl rfl (Ev.mvT rfl) ?_
  refine OPS.val rfl rfl rfl (Ev.extract rfl rfl) ?_
  refine OPS.val rfl rfl rfl (Ev.extract rfl rfl) ?_
  refine OPS.val rfl rfl rfl (Ev.extract rfl rfl) ?_
  refine OPS.val rfl rfl rfl (Ev.asB rfl) ?_
  refine OPS.val rfl rfl rfl (Ev.asB rfl) ?_
  refine OPS.val rfl rfl rfl (Ev.asB rfl) ?_
  refine OPS.nil ?_
  refine WP.seq ?_
  refine WP.region ?_
  refine OPS.val rfl rfl rfl (Ev.mvS rfl) ?_
  refine OPS.val rfl rfl rfl ((by exact Ev.loadO 1 H rfl (agg_run rfl) (size_run rfl) (by rfl) rfl)) ?_
  refine OPS.call (d := some 26) rfl rfl rfl (EvC.func (fun_run rfl)) (parkRelation A fs ca 2 p w (hz.sh H)) ?_
  rintro _ w ⟨rfl, hb⟩
  refine ⟨_, rfl, ?_⟩
  replace H := H.toBelow hb; clear hb
  refine OPS.val rfl rfl rfl (Ev.mvT rfl) ?_
  refine OPS.val rfl rfl rfl (Ev.extract rfl rfl) ?_
  refine OPS.val rfl rfl rfl (Ev.extract rfl rfl) ?_
  refine OPS.val rfl rfl rfl (Ev.extract rfl rfl) ?_
  refine OPS.val rfl rfl rfl (Ev.asB rfl) ?_
  refine OPS.val rfl rfl rfl (Ev.asB rfl) ?_
  refine OPS.val rfl rfl rfl (Ev.asB rfl) ?_
  refine OPS.nil ?_
  refine WP.seq ?_
  refine WP.region ?_
  refine OPS.val rfl rfl rfl (Ev.fieldAddr (fld_run rfl) rfl) ?_
  refine OPS.val rfl rfl rfl (Ev.load1 (agg_run rfl) rfl (by exact H.ldL 1 rfl _ rfl)) ?_
  refine OPS.val rfl rfl rfl (Ev.fieldAddr (fld_run rfl) rfl) ?_
  refine OPS.val rfl rfl rfl (Ev.load1 (agg_run rfl) rfl (by exact H.ldL 1 rfl _ rfl)) ?_
  refine OPS.val rfl rfl rfl (Ev.fieldAddr (fld_run rfl) rfl) ?_
  refine OPS.val rfl rfl rfl (Ev.load1 (agg_run rfl) rfl (by exact H.ldL 1 rfl _ rfl)) ?_
  refine OPS.val rfl rfl rfl (Ev.build (bld_31_0_1_2_3 rfl rfl rfl rfl)) ?_
  refine OPS.alloc rfl rfl rfl rfl (zero_run rfl) rfl H ?_
  clear H; intro g14 w H
  refine OPS.store 0 _ rfl rfl rfl (size_run rfl) rfl (cA rfl) rfl rfl H rfl (by simp) ?_
  clear H; intro w H; try simp only [List.set_cons_zero, List.set_cons_succ, putL, Nat.zero_add] at H
  refine OPS.nil ?_
  refine WP.seq ?_
  refine WP.block ?_
  refine WP.seq ?_
  refine WP.block ?_
  refine WP.block ?_
  refine WP.seq ?_
  refine WP.block ?_
  refine WP.block ?_
  refine WP.seq ?_
  refine WP.seq ?_
  refine WP.seq ?_
  refine WP.region ?_
  refine OPS.val rfl rfl rfl (Ev.mvB rfl) ?_
  refine OPS.val rfl rfl rfl (Ev.asB rfl) ?_
  refine OPS.nil ?_
  refine WP.cond rfl (fun hc5 => ?_) (fun hc5 => ?_)
  · refine WP.exit ?_
    refine XB.hit ?_
    refine WP.seq ?_
    refine WP.region ?_
    refine OPS.val rfl rfl rfl (Ev.fieldAddr (fld_run rfl) rfl) ?_
    refine OPS.store 0 _ rfl rfl rfl (size_run rfl) rfl (cI rfl) rfl rfl H rfl (by simp) ?_
    clear H; intro w H; try simp only [List.set_cons_zero, List.set_cons_succ, putL, Nat.zero_add] at H
    refine OPS.nil ?_
    refine WP.exit ?_
    refine XB.miss rfl ?_
    refine XB.miss rfl ?_
    refine XB.hit ?_
    refine WP.seq ?_
    refine WP.region ?_
    refine OPS.val rfl rfl rfl ((by exact Ev.loadO 0 H rfl (agg_run rfl) (size_run rfl) (by rfl) rfl)) ?_
    refine OPS.store 1 _ rfl rfl rfl (size_run rfl) rfl (cA rfl) rfl rfl H rfl (by simp) ?_
    clear H; intro w H; try simp only [List.set_cons_zero, List.set_cons_succ, putL, Nat.zero_add] at H
    refine OPS.nil ?_
    refine WP.ret ⟨[_], ⟨(by exact resCellA 1 H rfl (agg_run rfl) (size_run rfl) (by rfl) rfl), trivial⟩, ?_⟩
    refine ⟨?_, H.below⟩
    unfold judgeK; simp only [*, if_true, Bool.false_eq_true, if_false, reduceIte]; rfl
  refine WP.skip ?_
  refine WP.seq ?_
  refine WP.seq ?_
  refine WP.region ?_
  refine OPS.val rfl rfl rfl (Ev.mvB rfl) ?_
  refine OPS.val rfl rfl rfl (Ev.mvB rfl) ?_
  refine OPS.gval rfl rfl rfl rfl rfl (fun hg => Ev.mvB (by rfl)) ?_
  refine OPS.gval rfl rfl rfl rfl rfl (fun hg => Ev.not (by exact gvE hg rfl)) ?_
  refine OPS.val rfl rfl rfl ((by exact Ev.pickAnd rfl rfl rfl)) ?_
  refine OPS.val rfl rfl rfl (Ev.asB rfl) ?_
  refine OPS.nil ?_
  refine WP.cond rfl (fun hc6 => ?_) (fun hc6 => ?_)
  · refine WP.exit ?_
    refine XB.miss rfl ?_
    refine XB.hit ?_
    refine WP.seq ?_
    refine WP.region ?_
    refine OPS.val rfl rfl rfl (Ev.fieldAddr (fld_run rfl) rfl) ?_
    refine OPS.store 0 _ rfl rfl rfl (size_run rfl) rfl (cI rfl) rfl rfl H rfl (by simp) ?_
    clear H; intro w H; try simp only [List.set_cons_zero, List.set_cons_succ, putL, Nat.zero_add] at H
    refine OPS.nil ?_
    refine WP.exit ?_
    refine XB.miss rfl ?_
    refine XB.miss rfl ?_
    refine XB.hit ?_
    refine WP.seq ?_
    refine WP.region ?_
    refine OPS.val rfl rfl rfl ((by exact Ev.loadO 0 H rfl (agg_run rfl) (size_run rfl) (by rfl) rfl)) ?_
    refine OPS.store 1 _ rfl rfl rfl (size_run rfl) rfl (cA rfl) rfl rfl H rfl (by simp) ?_
    clear H; intro w H; try simp only [List.set_cons_zero, List.set_cons_succ, putL, Nat.zero_add] at H
    refine OPS.nil ?_
    refine WP.ret ⟨[_], ⟨(by exact resCellA 1 H rfl (agg_run rfl) (size_run rfl) (by rfl) rfl), trivial⟩, ?_⟩
    refine ⟨?_, H.below⟩
    unfold judgeK; simp only [*, if_true, Bool.false_eq_true, if_false, reduceIte]; rfl
  refine WP.skip ?_
  refine WP.seq ?_
  refine WP.seq ?_
  refine WP.region ?_
  refine OPS.val rfl rfl rfl (Ev.mvB rfl) ?_
  refine OPS.val rfl rfl rfl (Ev.not rfl) ?_
  refine OPS.val rfl rfl rfl (Ev.mvB rfl) ?_
  refine OPS.gval rfl rfl rfl rfl rfl (fun hg => Ev.mvB (by rfl)) ?_
  refine OPS.gval rfl rfl rfl rfl rfl (fun hg => Ev.mvB (by exact gvE hg rfl)) ?_
  refine OPS.gvalN rfl rfl (GB.g rfl) rfl rfl (fun hg => Ev.mvB (by rfl)) ?_
  refine OPS.gvalN rfl rfl (GB.g rfl) rfl rfl (fun hg => Ev.not (by exact gvE hg rfl)) ?_
  refine OPS.gval rfl rfl rfl rfl rfl (fun hg => (by exact Ev.pickOr2 (beqT hg) (gvE hg rfl) rfl rfl)) ?_
  refine OPS.val rfl rfl rfl ((by exact Ev.pickAnd rfl rfl rfl)) ?_
  refine OPS.val rfl rfl rfl (Ev.asB rfl) ?_
  refine OPS.nil ?_
  refine WP.cond rfl (fun hc7 => ?_) (fun hc7 => ?_)
  · refine WP.exit ?_
    refine XB.miss rfl ?_
    refine XB.miss rfl ?_
    refine XB.hit ?_
    refine WP.seq ?_
    refine WP.region ?_
    refine OPS.val rfl rfl rfl (Ev.fieldAddr (fld_run rfl) rfl) ?_
    refine OPS.store 0 _ rfl rfl rfl (size_run rfl) rfl (cI rfl) rfl rfl H rfl (by simp) ?_
    clear H; intro w H; try simp only [List.set_cons_zero, List.set_cons_succ, putL, Nat.zero_add] at H
    refine OPS.nil ?_
    refine WP.exit ?_
    refine XB.hit ?_
    refine WP.seq ?_
    refine WP.region ?_
    refine OPS.val rfl rfl rfl ((by exact Ev.loadO 0 H rfl (agg_run rfl) (size_run rfl) (by rfl) rfl)) ?_
    refine OPS.store 1 _ rfl rfl rfl (size_run rfl) rfl (cA rfl) rfl rfl H rfl (by simp) ?_
    clear H; intro w H; try simp only [List.set_cons_zero, List.set_cons_succ, putL, Nat.zero_add] at H
    refine OPS.nil ?_
    refine WP.ret ⟨[_], ⟨(by exact resCellA 1 H rfl (agg_run rfl) (size_run rfl) (by rfl) rfl), trivial⟩, ?_⟩
    refine ⟨?_, H.below⟩
    unfold judgeK; simp only [*, if_true, Bool.false_eq_true, if_false, reduceIte]; rfl
  refine WP.skip ?_
  refine WP.seq ?_
  refine WP.region ?_
  refine OPS.val rfl rfl rfl (Ev.mvS rfl) ?_
  refine OPS.val rfl rfl rfl (Ev.mvF rfl) ?_
  refine OPS.call (d := some 58) rfl rfl rfl (EvC.func (fun_run rfl)) (slContainsP B ps cb 35 [.pointer (some ⟨g5, 0, none⟩)] (countB p) w rfl (hp.sh H) (fun f hf w' hb => parkJudge1 f g5 p w' (((hp.sh H).each f hf).below hb) ht (cell_below hb (H.ldL 2 rfl 0 rfl)) (cell_below hb (H.ldL 2 rfl 2 rfl)))) ?_
  rintro _ w ⟨rfl, hb⟩
  refine ⟨_, rfl, ?_⟩
  replace H := H.toBelow hb; clear hb
  refine OPS.val rfl rfl rfl (Ev.asB rfl) ?_
  refine OPS.nil ?_
  refine WP.cond rfl (fun hc8 => ?_) (fun hc8 => ?_)
  · refine WP.exit ?_
    refine XB.miss rfl ?_
    refine XB.miss rfl ?_
    refine XB.miss rfl ?_
    refine XB.hit ?_
    refine WP.seq ?_
    refine WP.region ?_
    refine OPS.val rfl rfl rfl (Ev.fieldAddr (fld_run rfl) rfl) ?_
    refine OPS.store 0 _ rfl rfl rfl (size_run rfl) rfl (cI rfl) rfl rfl H rfl (by simp) ?_
    clear H; intro w H; try simp only [List.set_cons_zero, List.set_cons_succ, putL, Nat.zero_add] at H
    refine OPS.nil ?_
    refine WP.exit ?_
    refine XB.hit ?_
    refine WP.seq ?_
    refine WP.region ?_
    refine OPS.val rfl rfl rfl ((by exact Ev.loadO 0 H rfl (agg_run rfl) (size_run rfl) (by rfl) rfl)) ?_
    refine OPS.store 1 _ rfl rfl rfl (size_run rfl) rfl (cA rfl) rfl rfl H rfl (by simp) ?_
    clear H; intro w H; try simp only [List.set_cons_zero, List.set_cons_succ, putL, Nat.zero_add] at H
    refine OPS.nil ?_
    refine WP.ret ⟨[_], ⟨(by exact resCellA 1 H rfl (agg_run rfl) (size_run rfl) (by rfl) rfl), trivial⟩, ?_⟩
    refine ⟨?_, H.below⟩
    unfold judgeK; simp only [*, if_true, Bool.false_eq_true, if_false, reduceIte]; rfl
  refine WP.skip ?_
  refine WP.exit ?_
  refine XB.miss rfl ?_
  refine XB.miss rfl ?_
  refine XB.miss rfl ?_
  refine XB.miss rfl ?_
  refine XB.hit ?_
  refine WP.seq ?_
  refine WP.region ?_
  refine OPS.val rfl rfl rfl ((by exact Ev.loadO 0 H rfl (agg_run rfl) (size_run rfl) (by rfl) rfl)) ?_
  refine OPS.store 1 _ rfl rfl rfl (size_run rfl) rfl (cA rfl) rfl rfl H rfl (by simp) ?_
  clear H; intro w H; try simp only [List.set_cons_zero, List.set_cons_succ, putL, Nat.zero_add] at H
  refine OPS.nil ?_
  refine WP.ret ⟨[_], ⟨(by exact resCellA 1 H rfl (agg_run rfl) (size_run rfl) (by rfl) rfl), trivial⟩, ?_⟩
  refine ⟨?_, H.below⟩
  unfold judgeK; simp only [*, if_true, Bool.false_eq_true, if_false, reduceIte]; rfl
end Go.Proofs.YtjgdklhbegplfaaGreat
