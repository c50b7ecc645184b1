/-
  Walks: drive, visit, home of a tour.
-/
import Derived.Test.YtfddebpeiilohaaT8
set_option linter.all false
namespace Go.Proofs.Ytfddebpeiilohaa
open Go Go.W Go.RowKit

theorem rowsS {α : Type} {sz : Nat} {enc : α → List Value} {w0 w : World} {S : List Nat} {L : List Blk} {A : Option Addr} {l : List α} (h : RowsAt sz enc w0 A l) (hS : l ≠ [] → Off A S) (H : SH w0 S w L) : RowsAt sz enc w A l := by
  cases l with
  | nil => exact RowsAt.nil
  | cons a l => exact h.shS (hS (by simp)) H
theorem roadT_bd {n s v : Nat} {l : List Edg} (hok : RoadOk n l) (hs : s < n) (hv : v < n) : -1 ≤ roadT n l s v ∧ roadT n l s v ≤ 64000 := by
  obtain ⟨K, D, hR⟩ := rd_exists hok hs
  rw [roadT_eq hok hR hv]
  cases hk : K v with
  | true => have := hR.small hok hv hk; simp; omega
  | false => simp
theorem roadErr_ok {n : Nat} {l : List Edg} (hok : RoadOk n l) : roadErr n l = 0 := by
  have h1 := hok.n1
  have h2 := hok.n2
  have h3 := hok.len
  rw [roadErr, if_neg (by simp; omega), if_neg (by omega), edgsErr_drop (j := l.length) (Nat.le_refl _) (fun i hi _ => ?_)]
  · simp [edgsErr]
  · have h4 := hok.nodes l[i] (List.getElem_mem hi)
    have h5 := hok.secs l[i] (List.getElem_mem hi)
    refine ⟨?_, ?_⟩
    · simp [edgBad, isNode]; omega
    · simp [edgRange]; omega
theorem timesOf_ok {n s : Nat} {l : List Edg} (hok : RoadOk n l) (hs : s < n) : timesErr n l s = 0 ∧ timesOf n l s = timesL n l s := by
  have h : timesErr n l s = 0 := by
    have h1 := roadErr_ok hok
    unfold timesErr isNode
    simp [h1, hs]
  exact ⟨h, by rw [timesOf, if_pos h]; simp⟩
/-- a truck on its way -/
structure TS where
  at_ : Nat
  now : Int
  load : Int
  driven : Int
def tourCells (t : Truck) (N : List Value) (s : TS) : List Value := truckCells t ++ N ++ [I s.at_, I s.now, I s.load, I s.driven]
def driveE (d : Int) : Int := if d < 0 then 15 else 0
def driveS (d : Int) (v : Nat) (s : TS) : TS := ⟨v, s.now + d, s.load, s.driven + d⟩
def nightL (m : Nat) (A B C : Option Addr) (ll tl nl ca cb cc : Nat) (hd : Int) : List Value := [I m, .slice A ll ca, .slice B tl cb, .slice C nl cc, I hd]

set_option maxHeartbeats 1000000 in
theorem tourDrive (g m v : Nat) (A B C : Option Addr) (l : List Edg) (tl nl ca cb cc : Nat) (hd : Int) (t : Truck) (s : TS) (w0 : World) (S : List Nat) (hok : RoadOk m l) (hv : v < m) (hs : s.at_ < m) (hb : -1000000000000 ≤ s.now ∧ s.now ≤ 1000000000000 ∧ -1000000000000 ≤ s.driven ∧ s.driven ≤ 1000000000000)
    (hz : EdgsAt w0 A l) (hA : l ≠ [] → Off A S) (H0 : SH w0 S w0 [⟨g, 70, tourCells t (nightL m A B C l.length tl nl ca cb cc hd) s⟩]) :
    Calls Try.prog 71 #[.pointer (some ⟨g, 0, none⟩), I v] w0 fun e w' => e = .returned (I (driveE (roadT m l s.at_ v))) ∧ (0 ≤ roadT m l s.at_ v → SH w0 S w' [⟨g, 70, tourCells t (nightL m A B C l.length tl nl ca cb cc hd) (driveS (roadT m l s.at_ v) v s)⟩]) ∧ ∃ L, SH w0 S w' L := by
  have H := H0
  have hbd := roadT_bd hok hs hv
  obtain ⟨hte, htl⟩ := timesOf_ok hok hs
  have htn := timesL_length m l s.at_
  unfold tourCells truckCells nightL at H
  simp only [List.cons_append, List.nil_append] at H
  refine Calls.ofWP Try.func71 rfl Try.results71 Try.ntmps71 rfl ?_
  refine WP.seq ?_
  refine WP.region ?_
  refine OPS.val rfl rfl rfl (Ev.asI rfl) ?_
  refine OPS.nil ?_
  refine WP.seq ?_
  refine WP.rheldC [5, 6, 7, 8, 9, 10, 11, 12, 13, 14, 15, 16, 17, 18, 19] (fun u w' => ∃ (TA : Option Addr) (Lc : List Blk), u 5 = .slice TA (timesOf m l s.at_).length (timesOf m l s.at_).length ∧ u 6 = I (timesErr m l s.at_) ∧ OwnL 3 I TA (timesOf m l s.at_) Lc ∧ SH w0 S w' ([⟨g, 70, tourCells t (nightL m A B C l.length tl nl ca cb cc hd) s⟩] ++ Lc)) mixed H ?_ ?_
  · clear H; intro w hbw1 H
    refine OPH.take 0 rfl rfl rfl rfl (by kernel_rfl) (by kernel_rfl) (by kernel_rfl) rfl (by exact H) (fun w H => Ev.mvP rfl) ?_
    refine OPH.take 1 rfl rfl rfl rfl (by kernel_rfl) (by kernel_rfl) (by kernel_rfl) rfl (by exact H) (fun w H => (by exact Ev.nilCheckP rfl)) ?_
    refine OPH.take 2 rfl rfl rfl rfl (by kernel_rfl) (by kernel_rfl) (by kernel_rfl) rfl (by exact H) (fun w H => Ev.fieldAddr (fld_run rfl) rfl) ?_
    refine OPH.take 3 rfl rfl rfl rfl (by kernel_rfl) (by kernel_rfl) (by kernel_rfl) rfl (by exact H) (fun w H => Ev.fieldAddr (fld_run rfl) rfl) ?_
    refine OPH.take 4 rfl rfl rfl rfl (by kernel_rfl) (by kernel_rfl) (by kernel_rfl) rfl (by exact H) (fun w H => (by exact Ev.loadN [_, _] (agg_run rfl) (size_run rfl) rfl ⟨H.ldL 0 rfl _ rfl, H.ldL 0 rfl _ rfl, trivial⟩)) ?_
    refine OPH.take 5 rfl rfl rfl rfl (by kernel_rfl) (by kernel_rfl) (by kernel_rfl) rfl (by exact H) (fun w H => Ev.mvP rfl) ?_
    refine OPH.take 6 rfl rfl rfl rfl (by kernel_rfl) (by kernel_rfl) (by kernel_rfl) rfl (by exact H) (fun w H => (by exact Ev.nilCheckP rfl)) ?_
    refine OPH.take 7 rfl rfl rfl rfl (by kernel_rfl) (by kernel_rfl) (by kernel_rfl) rfl (by exact H) (fun w H => Ev.fieldAddr (fld_run rfl) rfl) ?_
    refine OPH.take 8 rfl rfl rfl rfl (by kernel_rfl) (by kernel_rfl) (by kernel_rfl) rfl (by exact H) (fun w H => Ev.load1 (agg_run rfl) rfl (by exact H.ldL 0 rfl _ rfl)) ?_
    refine OPH.all [9] (by kernel_rfl) (by simp) rfl ?_
    intro i hi; simp only [List.mem_cons, List.not_mem_nil, or_false] at hi
    rcases hi with rfl
    · refine ⟨_, rfl, ?_⟩
      refine OPS.call (d := some 17) rfl rfl rfl (EvC.func (fun_run rfl)) (roadTimes m s.at_ A l ca _ (rowsS hz hA H)) ?_
      rintro _ w ⟨TA, Lc, rfl, hOL, Hc⟩
      refine ⟨_, rfl, ?_⟩
      have Hf : SH w0 S w ([_] ++ Lc) := SH.call (L1 := [_]) (Lv := []) H Hc
      clear H Hc
      have H := Hf.drop (List.sublist_append_left _ _)
      refine OPS.nil ?_
      refine ⟨(by exact H), ?_⟩
      refine OPH.take 10 rfl rfl rfl rfl (by kernel_rfl) (by kernel_rfl) (by kernel_rfl) rfl (by exact H) (fun w H => Ev.mvT rfl) ?_
      refine OPH.take 11 rfl rfl rfl rfl (by kernel_rfl) (by kernel_rfl) (by kernel_rfl) rfl (by exact H) (fun w H => Ev.extract rfl rfl) ?_
      refine OPH.take 12 rfl rfl rfl rfl (by kernel_rfl) (by kernel_rfl) (by kernel_rfl) rfl (by exact H) (fun w H => Ev.extract rfl rfl) ?_
      refine OPH.take 13 rfl rfl rfl rfl (by kernel_rfl) (by kernel_rfl) (by kernel_rfl) rfl (by exact H) (fun w H => Ev.asS rfl) ?_
      refine OPH.take 14 rfl rfl rfl rfl (by kernel_rfl) (by kernel_rfl) (by kernel_rfl) rfl (by exact H) (fun w H => Ev.asI rfl) ?_
      refine OPH.done (by kernel_rfl) ?_
      exact ⟨(by repeat (first | exact Agree.refl _ _ | exact Agree.mix _ _ _ | refine Agree.upd rfl ?_ | refine Agree.mix2 rfl ?_)), TA, Lc, rfl, rfl, hOL, Hf⟩
  clear H
  rintro u w ⟨TA, Lc, h5, h6, hOL, H⟩
  refine WP.know (t := 5) h5 (WP.know (t := 6) h6 ?_)
  unfold tourCells truckCells nightL at H
  simp only [List.cons_append, List.nil_append] at H
  rw [htl] at hOL
  have htv : (timesL m l s.at_)[v]'(by omega) = roadT m l s.at_ v := timesL_at (by omega)
  have hvl : v < (timesOf m l s.at_).length := by rw [htl]; omega
  have hrd : ∀ (w : World) (B : Blk), SH w0 S w ([B] ++ Lc) → OnesAt I w TA (timesL m l s.at_) := fun w B H => hOL.rd H (fun b hb => List.mem_append_right _ hb)
  obtain ⟨bt, ot, rfl, _⟩ := hrd w _ H v (by omega)
  have hx0 := (hrd w _ H).atK (show v < (timesL m l s.at_).length by omega)
  rw [htv] at hx0
  refine WP.seq ?_
  refine WP.block ?_
  refine WP.seq ?_
  refine WP.region ?_
  refine OPS.val rfl rfl rfl (Ev.mvI rfl) ?_
  refine OPS.val rfl rfl rfl (Ev.neq rfl rfl) ?_
  refine OPS.val rfl rfl rfl (Ev.asB rfl) ?_
  refine OPS.nil ?_
  refine WP.cond rfl (fun hc2 => ?_) (fun hc2 => ?_)
  · refine WP.seq ?_
    refine WP.region ?_
    refine OPS.val rfl rfl rfl (Ev.mvI rfl) ?_
    refine OPS.val rfl rfl rfl (Ev.asI rfl) ?_
    refine OPS.nil ?_
    refine WP.ret ⟨_, rfl, ?_⟩
    exact absurd hc2 (by rw [hte]; simp)
  refine WP.seq ?_
  refine WP.region ?_
  refine OPS.val rfl rfl rfl (Ev.mvS rfl) ?_
  refine OPS.val rfl rfl rfl (Ev.mvI rfl) ?_
  refine OPS.val rfl rfl rfl ((by exact Ev.indexAddr1 (el_run rfl) (size_run rfl) rfl rfl rfl (by omega))) ?_
  refine OPS.val rfl rfl rfl (Ev.load1 (agg_run rfl) rfl (by assumption)) ?_
  refine OPS.val rfl rfl rfl (Ev.lss rfl rfl) ?_
  refine OPS.val rfl rfl rfl (Ev.asB rfl) ?_
  refine OPS.nil ?_
  refine WP.cond rfl (fun hc4 => ?_) (fun hc4 => ?_)
  · refine WP.seq ?_
    refine WP.region ?_
    refine OPS.val rfl rfl rfl (Ev.asI rfl) ?_
    refine OPS.nil ?_
    refine WP.ret ⟨_, rfl, ?_⟩
    have hd0 : roadT m l s.at_ v < 0 := by simpa using hc4
    exact ⟨by rw [driveE, if_pos hd0]; rfl, fun h => absurd h (by omega), _, H⟩
  have hd0 : ¬ roadT m l s.at_ v < 0 := by simpa using hc4
  refine WP.skip ?_
  refine WP.seq ?_
  refine WP.region ?_
  refine OPS.val rfl rfl rfl (Ev.mvP rfl) ?_
  refine OPS.val rfl rfl rfl (Ev.mvI rfl) ?_
  refine OPS.val rfl rfl rfl ((by exact Ev.nilCheckP rfl)) ?_
  refine OPS.val rfl rfl rfl (Ev.fieldAddr (fld_run rfl) rfl) ?_
  refine OPS.store 0 _ rfl rfl rfl (size_run rfl) rfl (cI rfl) rfl rfl H rfl (by simp) ?_
  clear H; intro w H; try simp only [List.set_cons_zero, List.set_cons_succ, putL, Nat.zero_add] at H
  refine OPS.nil ?_
  refine WP.seq ?_
  refine WP.rtail 11 mixed (by kernel_rfl) H ?_
  clear H; intro w hbw7 H
  refine OPS.val rfl rfl rfl (Ev.mvP rfl) ?_
  refine OPS.val rfl rfl rfl ((by exact Ev.nilCheckP rfl)) ?_
  refine OPS.val rfl rfl rfl (Ev.fieldAddr (fld_run rfl) rfl) ?_
  refine OPS.val rfl rfl rfl (Ev.load1 (agg_run rfl) rfl (by exact H.ldL 0 rfl _ rfl)) ?_
  refine OPS.val rfl rfl rfl (Ev.mvS rfl) ?_
  refine OPS.val rfl rfl rfl (Ev.mvI rfl) ?_
  refine OPS.val rfl rfl rfl ((by exact Ev.indexAddr1 (el_run rfl) (size_run rfl) rfl rfl rfl (by omega))) ?_
  have hxm := (hrd w _ H).atK (show v < (timesL m l s.at_).length by omega)
  rw [htv] at hxm
  refine OPS.val rfl rfl rfl (Ev.load1 (agg_run rfl) rfl (by assumption)) ?_
  refine OPS.val rfl rfl rfl (Ev.add rfl rfl (by unfold fits; omega)) ?_
  refine OPS.val rfl rfl rfl ((by exact Ev.nilCheckP rfl)) ?_
  refine OPS.val rfl rfl rfl (Ev.fieldAddr (fld_run rfl) rfl) ?_
  refine OPS.nil_s ?_
  refine OPS.store 0 _ rfl rfl rfl (size_run rfl) rfl (cI rfl) rfl rfl H rfl (by simp) ?_
  clear H; intro w H; try simp only [List.set_cons_zero, List.set_cons_succ, putL, Nat.zero_add] at H
  refine OPS.nil ?_
  refine WP.seq ?_
  refine WP.rtail 11 mixed (by kernel_rfl) H ?_
  clear H; intro w hbw8 H
  refine OPS.val rfl rfl rfl (Ev.mvP rfl) ?_
  refine OPS.val rfl rfl rfl ((by exact Ev.nilCheckP rfl)) ?_
  refine OPS.val rfl rfl rfl (Ev.fieldAddr (fld_run rfl) rfl) ?_
  refine OPS.val rfl rfl rfl (Ev.load1 (agg_run rfl) rfl (by exact H.ldL 0 rfl _ rfl)) ?_
  refine OPS.val rfl rfl rfl (Ev.mvS rfl) ?_
  refine OPS.val rfl rfl rfl (Ev.mvI rfl) ?_
  refine OPS.val rfl rfl rfl ((by exact Ev.indexAddr1 (el_run rfl) (size_run rfl) rfl rfl rfl (by omega))) ?_
  have hxm := (hrd w _ H).atK (show v < (timesL m l s.at_).length by omega)
  rw [htv] at hxm
  refine OPS.val rfl rfl rfl (Ev.load1 (agg_run rfl) rfl (by assumption)) ?_
  refine OPS.val rfl rfl rfl (Ev.add rfl rfl (by unfold fits; omega)) ?_
  refine OPS.val rfl rfl rfl ((by exact Ev.nilCheckP rfl)) ?_
  refine OPS.val rfl rfl rfl (Ev.fieldAddr (fld_run rfl) rfl) ?_
  refine OPS.nil_s ?_
  refine OPS.store 0 _ rfl rfl rfl (size_run rfl) rfl (cI rfl) rfl rfl H rfl (by simp) ?_
  clear H; intro w H; try simp only [List.set_cons_zero, List.set_cons_succ, putL, Nat.zero_add] at H
  refine OPS.nil ?_
  refine WP.seq ?_
  refine WP.region ?_
  refine OPS.val rfl rfl rfl (Ev.asI rfl) ?_
  refine OPS.nil ?_
  refine WP.ret ⟨_, rfl, ?_⟩
  exact ⟨by rw [driveE, if_neg hd0]; rfl, fun _ => H.drop (L' := [_]) (List.Sublist.cons_cons _ (List.nil_sublist _)), _, H⟩
end Go.Proofs.Ytfddebpeiilohaa
