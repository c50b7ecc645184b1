/-
  Walks: drive, visit, home of a tour.
-/
import Derived.Test.YtgjfjbphngamgaaT8
set_option linter.all false
namespace Go.Proofs.Ytgjfjbphngamgaa
open Go Go.W Go.RowKit

theorem rowsS {α : Type} {sz : Nat} {enc : α → List Value} {w0 w : World} {S : List Nat} {L : List Blk} {A : Option Addr} {l : List α} (h : RowsAt sz enc w0 A l) (hS : l ≠ [] → Off A S) (H : SH w0 S w L) : RowsAt sz enc w A l := by
  cases l with
  | nil => exact RowsAt.nil
  | cons a l => exact h.shS (hS (by simp)) H
theorem roadT_bd {n s v : Nat} {l : List Edg} (hok : RoadOk n l) (hs : s < n) (hv : v < n) : -1 ≤ roadT n l s v ∧ roadT n l s v ≤ 64000 := by
  obtain ⟨K, D, hR⟩ := rd_exists hok hs
  rw [roadT_eq hok hR hv]
  cases hk : K v with
  | true => have := hR.small hok hv hk; simp; omega
  | false => simp
theorem roadErr_ok {n : Nat} {l : List Edg} (hok : RoadOk n l) : roadErr n l = 0 := by
  have h1 := hok.n1
  have h2 := hok.n2
  have h3 := hok.len
  rw [roadErr, if_neg (by simp; omega), if_neg (by omega), edgsErr_drop (j := l.length) (Nat.le_refl _) (fun i hi _ => ?_)]
  · simp [edgsErr]
  · have h4 := hok.nodes l[i] (List.getElem_mem hi)
    have h5 := hok.secs l[i] (List.getElem_mem hi)
    refine ⟨?_, ?_⟩
    · simp [edgBad, isNode]; omega
    · simp [edgRange]; omega
theorem timesOf_ok {n s : Nat} {l : List Edg} (hok : RoadOk n l) (hs : s < n) : timesErr n l s = 0 ∧ timesOf n l s = timesL n l s := by
  have h : timesErr n l s = 0 := by
    have h1 := roadErr_ok hok
    unfold timesErr isNode
    simp [h1, hs]
  exact ⟨h, by rw [timesOf, if_pos h]; simp⟩
/-- a truck on its way -/
structure TS where
  at_ : Nat
  now : Int
  load : Int
  driven : Int
def tourCells (t : Truck) (N : List Value) (s : TS) : List Value := truckCells t ++ N ++ [I s.at_, I s.now, I s.load, I s.driven]
def driveE (d : Int) : Int := if d < 0 then 15 else 0
def driveS (d : Int) (v : Nat) (s : TS) : TS := ⟨v, s.now + d, s.load, s.driven + d⟩
def nightL (m : Nat) (A B C : Option Addr) (ll tl nl ca cb cc : Nat) (hd : Int) : List Value := [I m, .slice A ll ca, .slice B tl cb, .slice C nl cc, I hd]

set_option maxHeartbeats 1000000 in
theorem tourDrive (g m v : Nat) (A B C : Option Addr) (l : List Edg) (tl nl ca cb cc : Nat) (hd : Int) (t : Truck) (s : TS) (w0 : World) (S : List Nat) (hok : RoadOk m l) (hv : v < m) (hs : s.at_ < m) (hb : -1000000000000 ≤ s.now ∧ s.now ≤ 1000000000000 ∧ -1000000000000 ≤ s.driven ∧ s.driven ≤ 1000000000000)
    (hz : EdgsAt w0 A l) (hA : l ≠ [] → Off A S) (H0 : SH w0 S w0 [⟨g, 106, tourCells t (nightL m A B C l.length tl nl ca cb cc hd) s⟩]) :
    Calls Try.prog 85 #[.pointer (some ⟨g, 0, none⟩), I v] w0 fun e w' => e = .returned (I (driveE (roadT m l s.at_ v))) ∧ (0 ≤ roadT m l s.at_ v → SH w0 S w' [⟨g, 106, tourCells t (nightL m A B C l.length tl nl ca cb cc hd) (driveS (roadT m l s.at_ v) v s)⟩]) ∧ ∃ L, SH w0 S w' L := by
  have H := H0
  have hbd := roadT_bd hok hs hv
  obtain ⟨hte, htl⟩ := timesOf_ok hok hs
  have htn := timesL_length m l s.at_
  unfold tourCells truckCells nightL at H
  simp only [List.cons_append, List.nil_append] at H
  refine Calls.ofWP Try.func85 rfl Try.results85 Try.ntmps85 rfl ?_
  refine WP.seq ?_
  refine WP.region ?_
  refine OPS.val rfl rfl rfl (Ev.asI rfl) ?_
  refine OPS.nil ?_
  refine WP.seq ?_
  refine WP.rheldC [5, 6, 7, 8, 9, 10, 11, 12, 13, 14, 15, 16, 17, 18, 19] (fun u w' => ∃ (TA : Option Addr) (Lc : List Blk), u 5 = .slice TA (timesOf m l s.at_).length (timesOf m l s.at_).length ∧ u 6 = I (timesErr m l s.at_) ∧ OwnL 3 I TA (timesOf m l s.at_) Lc ∧ SH w0 S w' ([⟨g, 106, tourCells t (nightL m A B C l.length tl nl ca cb cc hd) s⟩] ++ Lc)) mixed H ?_ ?_
  · clear H; intro w hbw1 H
    refine OPH.take 0 rfl rfl rfl rfl (by kernel_rfl) (by kernel_rfl) (by kernel_rfl) rfl (by exact H) (fun w H => Ev.mvP rfl) ?_
    refine OPH.take 1 rfl rfl rfl rfl (by kernel_rfl) (by kernel_rfl) (by kernel_rfl) rfl (by exact H) (fun w H => (by exact Ev.nilCheckP rfl)) ?_
    refine OPH.take 2 rfl rfl rfl rfl (by kernel_rfl) (by kernel_rfl) (by kernel_rfl) rfl (by exact H) (fun w H => Ev.fieldAddr (fld_run rfl) rfl) ?_
    refine OPH.take 3 rfl rfl rfl rfl (by kernel_rfl) (by kernel_rfl) (by kernel_rfl) rfl (by exact H) (fun w H => Ev.fieldAddr (fld_run rfl) rfl) ?_
    refine OPH.take 4 rfl rfl rfl rfl (by kernel_rfl) (by kernel_rfl) (by kernel_rfl) rfl (by exact H) (fun w H => (by (change Ev _ _ _ _ (Op.load 24 (Operand.tmp 11)) _; exact Ev.loadN [I m, .slice A l.length ca] (agg_run rfl) (size_run rfl) rfl ⟨H.ldL 0 rfl 4 rfl, H.ldL 0 rfl 5 rfl, trivial⟩))) ?_
    refine OPH.take 5 rfl rfl rfl rfl (by kernel_rfl) (by kernel_rfl) (by kernel_rfl) rfl (by exact H) (fun w H => Ev.mvP rfl) ?_
    refine OPH.take 6 rfl rfl rfl rfl (by kernel_rfl) (by kernel_rfl) (by kernel_rfl) rfl (by exact H) (fun w H => (by exact Ev.nilCheckP rfl)) ?_
    refine OPH.take 7 rfl rfl rfl rfl (by kernel_rfl) (by kernel_rfl) (by kernel_rfl) rfl (by exact H) (fun w H => Ev.fieldAddr (fld_run rfl) rfl) ?_
    refine OPH.take 8 rfl rfl rfl rfl (by kernel_rfl) (by kernel_rfl) (by kernel_rfl) rfl (by exact H) (fun w H => Ev.load1 (agg_run rfl) rfl (by exact H.ldL 0 rfl _ rfl)) ?_
    refine OPH.all [9] (by kernel_rfl) (by simp) rfl ?_
    intro i hi; simp only [List.mem_cons, List.not_mem_nil, or_false] at hi
    rcases hi with rfl
    · refine ⟨_, rfl, ?_⟩
      refine OPS.call (d := some 17) rfl rfl rfl (EvC.func (fun_run rfl)) (roadTimes m s.at_ A l ca _ (rowsS hz hA H)) ?_
      rintro _ w ⟨TA, Lc, rfl, hOL, Hc⟩
      refine ⟨_, rfl, ?_⟩
      have Hf : SH w0 S w ([_] ++ Lc) := SH.call (L1 := [_]) (Lv := []) H Hc
      clear H Hc
      have H := Hf.drop (List.sublist_append_left _ _)
      refine OPS.nil ?_
      refine ⟨(by exact H), ?_⟩
      refine OPH.take 10 rfl rfl rfl rfl (by kernel_rfl) (by kernel_rfl) (by kernel_rfl) rfl (by exact H) (fun w H => Ev.mvT rfl) ?_
      refine OPH.take 11 rfl rfl rfl rfl (by kernel_rfl) (by kernel_rfl) (by kernel_rfl) rfl (by exact H) (fun w H => Ev.extract rfl rfl) ?_
      refine OPH.take 12 rfl rfl rfl rfl (by kernel_rfl) (by kernel_rfl) (by kernel_rfl) rfl (by exact H) (fun w H => Ev.extract rfl rfl) ?_
      refine OPH.take 13 rfl rfl rfl rfl (by kernel_rfl) (by kernel_rfl) (by kernel_rfl) rfl (by exact H) (fun w H => Ev.asS rfl) ?_
      refine OPH.take 14 rfl rfl rfl rfl (by kernel_rfl) (by kernel_rfl) (by kernel_rfl) rfl (by exact H) (fun w H => Ev.asI rfl) ?_
      refine OPH.done (by kernel_rfl) ?_
      exact ⟨(by repeat (first | exact Agree.refl _ _ | exact Agree.mix _ _ _ | refine Agree.upd rfl ?_ | refine Agree.mix2 rfl ?_)), TA, Lc, rfl, rfl, hOL, Hf⟩
  clear H
  rintro u w ⟨TA, Lc, h5, h6, hOL, H⟩
  refine WP.know (t := 5) h5 (WP.know (t := 6) h6 ?_)
  unfold tourCells truckCells nightL at H
  simp only [List.cons_append, List.nil_append] at H
  rw [htl] at hOL
  have htv : (timesL m l s.at_)[v]'(by omega) = roadT m l s.at_ v := timesL_at (by omega)
  have hvl : v < (timesOf m l s.at_).length := by rw [htl]; omega
  have hrd : ∀ (w : World) (B : Blk), SH w0 S w ([B] ++ Lc) → OnesAt I w TA (timesL m l s.at_) := fun w B H => hOL.rd H (fun b hb => List.mem_append_right _ hb)
  obtain ⟨bt, ot, rfl, _⟩ := hrd w _ H v (by omega)
  have hx0 := (hrd w _ H).atK (show v < (timesL m l s.at_).length by omega)
  rw [htv] at hx0
  refine WP.seq ?_
  refine WP.block ?_
  refine WP.seq ?_
  refine WP.region ?_
  refine OPS.val rfl rfl rfl (Ev.mvI rfl) ?_
  refine OPS.val rfl rfl rfl (Ev.neq rfl rfl) ?_
  refine OPS.val rfl rfl rfl (Ev.asB rfl) ?_
  refine OPS.nil ?_
  refine WP.cond rfl (fun hc2 => ?_) (fun hc2 => ?_)
  · refine WP.seq ?_
    refine WP.region ?_
    refine OPS.val rfl rfl rfl (Ev.mvI rfl) ?_
    refine OPS.val rfl rfl rfl (Ev.asI rfl) ?_
    refine OPS.nil ?_
    refine WP.ret ⟨_, rfl, ?_⟩
    exact absurd hc2 (by rw [hte]; simp)
  refine WP.seq ?_
  refine WP.region ?_
  refine OPS.val rfl rfl rfl (Ev.mvS rfl) ?_
  refine OPS.val rfl rfl rfl (Ev.mvI rfl) ?_
  refine OPS.val rfl rfl rfl ((by exact Ev.indexAddr1 (el_run rfl) (size_run rfl) rfl rfl rfl (by omega))) ?_
  refine OPS.val rfl rfl rfl (Ev.load1 (agg_run rfl) rfl (by assumption)) ?_
  refine OPS.val rfl rfl rfl (Ev.lss rfl rfl) ?_
  refine OPS.val rfl rfl rfl (Ev.asB rfl) ?_
  refine OPS.nil ?_
  refine WP.cond rfl (fun hc4 => ?_) (fun hc4 => ?_)
  · refine WP.seq ?_
    refine WP.region ?_
    refine OPS.val rfl rfl rfl (Ev.asI rfl) ?_
    refine OPS.nil ?_
    refine WP.ret ⟨_, rfl, ?_⟩
    have hd0 : roadT m l s.at_ v < 0 := by simpa using hc4
    exact ⟨by rw [driveE, if_pos hd0]; rfl, fun h => absurd h (by omega), _, H⟩
  have hd0 : ¬ roadT m l s.at_ v < 0 := by simpa using hc4
  refine WP.skip ?_
  refine WP.seq ?_
  refine WP.region ?_
  refine OPS.val rfl rfl rfl (Ev.mvP rfl) ?_
  refine OPS.val rfl rfl rfl (Ev.mvI rfl) ?_
  refine OPS.val rfl rfl rfl ((by exact Ev.nilCheckP rfl)) ?_
  refine OPS.val rfl rfl rfl (Ev.fieldAddr (fld_run rfl) rfl) ?_
  refine OPS.store 0 _ rfl rfl rfl (size_run rfl) rfl (cI rfl) rfl rfl H rfl (by simp) ?_
  clear H; intro w H; try simp only [List.set_cons_zero, List.set_cons_succ, putL, Nat.zero_add] at H
  refine OPS.nil ?_
  refine WP.seq ?_
  refine WP.rtail 11 mixed (by kernel_rfl) H ?_
  clear H; intro w hbw7 H
  refine OPS.val rfl rfl rfl (Ev.mvP rfl) ?_
  refine OPS.val rfl rfl rfl ((by exact Ev.nilCheckP rfl)) ?_
  refine OPS.val rfl rfl rfl (Ev.fieldAddr (fld_run rfl) rfl) ?_
  refine OPS.val rfl rfl rfl (Ev.load1 (agg_run rfl) rfl (by exact H.ldL 0 rfl _ rfl)) ?_
  refine OPS.val rfl rfl rfl (Ev.mvS rfl) ?_
  refine OPS.val rfl rfl rfl (Ev.mvI rfl) ?_
  refine OPS.val rfl rfl rfl ((by exact Ev.indexAddr1 (el_run rfl) (size_run rfl) rfl rfl rfl (by omega))) ?_
  have hxm := (hrd w _ H).atK (show v < (timesL m l s.at_).length by omega)
  rw [htv] at hxm
  refine OPS.val rfl rfl rfl (Ev.load1 (agg_run rfl) rfl (by assumption)) ?_
  refine OPS.val rfl rfl rfl (Ev.add rfl rfl (by unfold fits; omega)) ?_
  refine OPS.val rfl rfl rfl ((by exact Ev.nilCheckP rfl)) ?_
  refine OPS.val rfl rfl rfl (Ev.fieldAddr (fld_run rfl) rfl) ?_
  refine OPS.nil_s ?_
  refine OPS.store 0 _ rfl rfl rfl (size_run rfl) rfl (cI rfl) rfl rfl H rfl (by simp) ?_
  clear H; intro w H; try simp only [List.set_cons_zero, List.set_cons_succ, putL, Nat.zero_add] at H
  refine OPS.nil ?_
  refine WP.seq ?_
  refine WP.rtail 11 mixed (by kernel_rfl) H ?_
  clear H; intro w hbw8 H
  refine OPS.val rfl rfl rfl (Ev.mvP rfl) ?_
  refine OPS.val rfl rfl rfl ((by exact Ev.nilCheckP rfl)) ?_
  refine OPS.val rfl rfl rfl (Ev.fieldAddr (fld_run rfl) rfl) ?_
  refine OPS.val rfl rfl rfl (Ev.load1 (agg_run rfl) rfl (by exact H.ldL 0 rfl _ rfl)) ?_
  refine OPS.val rfl rfl rfl (Ev.mvS rfl) ?_
  refine OPS.val rfl rfl rfl (Ev.mvI rfl) ?_
  refine OPS.val rfl rfl rfl ((by exact Ev.indexAddr1 (el_run rfl) (size_run rfl) rfl rfl rfl (by omega))) ?_
  have hxm := (hrd w _ H).atK (show v < (timesL m l s.at_).length by omega)
  rw [htv] at hxm
  refine OPS.val rfl rfl rfl (Ev.load1 (agg_run rfl) rfl (by assumption)) ?_
  refine OPS.val rfl rfl rfl (Ev.add rfl rfl (by unfold fits; omega)) ?_
  refine OPS.val rfl rfl rfl ((by exact Ev.nilCheckP rfl)) ?_
  refine OPS.val rfl rfl rfl (Ev.fieldAddr (fld_run rfl) rfl) ?_
  refine OPS.nil_s ?_
  refine OPS.store 0 _ rfl rfl rfl (size_run rfl) rfl (cI rfl) rfl rfl H rfl (by simp) ?_
  clear H; intro w H; try simp only [List.set_cons_zero, List.set_cons_succ, putL, Nat.zero_add] at H
  refine OPS.nil ?_
  refine WP.seq ?_
  refine WP.region ?_
  refine OPS.val rfl rfl rfl (Ev.asI rfl) ?_
  refine OPS.nil ?_
  refine WP.ret ⟨_, rfl, ?_⟩
  exact ⟨by rw [driveE, if_neg hd0]; rfl, fun _ => H.drop (L' := [_]) (List.Sublist.cons_cons _ (List.nil_sublist _)), _, H⟩
end Go.Proofs.Ytgjfjbphngamgaa

/-
  Walks: visit, home of a tour.
-/
set_option linter.all false
namespace Go.Proofs.Ytgjfjbphngamgaa
open Go Go.W Go.RowKit

structure Vis where
  need : Int
  arrive : Int
  leave : Int
  load : Int
instance : Inhabited Vis := ⟨⟨0, 0, 0, 0⟩⟩
def visCells (v : Vis) : List Value := [I v.need, I v.arrive, I v.leave, I v.load]
theorem visCells_len (v : Vis) : (visCells v).length = 4 := rfl
def absI (z : Int) : Int := if z < -z then -z else z
def visitE (d cap : Int) (x : Need) (s : TS) : Int := if d < 0 then 15 else if inB (s.load + x.move) 0 cap = true then 0 else 24
def visitV (d hd : Int) (i : Int) (x : Need) (s : TS) : Vis := ⟨i, s.now + d, s.now + d + absI x.move * hd, s.load + x.move⟩
def visitT (d hd : Int) (x : Need) (s : TS) : TS := ⟨x.node.toNat, s.now + d + absI x.move * hd, s.load + x.move, s.driven + d⟩

set_option maxHeartbeats 1000000 in
theorem tourVisit (g m i : Nat) (A B C : Option Addr) (l : List Edg) (ns : List Need) (tl ca cb cc : Nat) (hd : Int) (t : Truck) (s : TS) (w0 : World) (S : List Nat) (hok : RoadOk m l) (hs : s.at_ < m) (hb : -100000000000 ≤ s.now ∧ s.now ≤ 100000000000 ∧ -100000000000 ≤ s.driven ∧ s.driven ≤ 100000000000 ∧ -100000 ≤ s.load ∧ s.load ≤ 100000)
    (hi : i < ns.length) (hx : 0 ≤ ns[i].node ∧ ns[i].node < m ∧ -32 ≤ ns[i].move ∧ ns[i].move ≤ 32) (hh : 0 ≤ hd ∧ hd ≤ 3600)
    (hz : EdgsAt w0 A l) (hA : l ≠ [] → Off A [g]) (hn : RowsAt 2 needCells w0 C ns) (hC : ns ≠ [] → Off C S) (H0 : SH w0 S w0 [⟨g, 106, tourCells t (nightL m A B C l.length tl ns.length ca cb cc hd) s⟩]) (hgS : S = [g]) :
    Calls Try.prog 69 #[.pointer (some ⟨g, 0, none⟩), I i] w0 fun e w' => e = .returned (.tuple #[.agg (visCells (if visitE (roadT m l s.at_ ns[i].node.toNat) t.cap ns[i] s = 0 then visitV (roadT m l s.at_ ns[i].node.toNat) hd i ns[i] s else default)).toArray, I (visitE (roadT m l s.at_ ns[i].node.toNat) t.cap ns[i] s)]) ∧
      (visitE (roadT m l s.at_ ns[i].node.toNat) t.cap ns[i] s = 0 → SH w0 S w' [⟨g, 106, tourCells t (nightL m A B C l.length tl ns.length ca cb cc hd) (visitT (roadT m l s.at_ ns[i].node.toNat) hd ns[i] s)⟩]) ∧ ∃ L, SH w0 S w' L := by
  have H := H0
  obtain ⟨v, hv⟩ := Int.eq_ofNat_of_zero_le hx.1
  have hvm : v < m := by omega
  have hvT : ns[i].node.toNat = v := by omega
  rw [hvT]
  have hbd := roadT_bd hok hs hvm
  generalize hD : roadT m l s.at_ v = d at *
  have hxa : 0 ≤ absI ns[i].move ∧ absI ns[i].move ≤ 32 := by unfold absI; split <;> omega
  have hmul : 0 ≤ absI ns[i].move * hd ∧ absI ns[i].move * hd ≤ 115200 := by
    refine ⟨Int.mul_nonneg hxa.1 hh.1, ?_⟩
    calc absI ns[i].move * hd ≤ 32 * hd := Int.mul_le_mul_of_nonneg_right hxa.2 hh.1
      _ ≤ 115200 := by omega
  have hmul2 : 0 ≤ (if ns[i].move < -ns[i].move then -ns[i].move else ns[i].move) * hd ∧ (if ns[i].move < -ns[i].move then -ns[i].move else ns[i].move) * hd ≤ 115200 := hmul
  obtain ⟨bn, on, rfl, hc⟩ := hn i hi
  have hnb : bn ∉ S := hC (by intro h; subst h; simp at hi) bn on rfl
  have hcd : needCells ns[i] = [I v, I ns[i].move] := by unfold needCells; rw [hv]
  unfold tourCells truckCells nightL at H
  simp only [List.cons_append, List.nil_append] at H
  refine Calls.ofWPc Try.func69 rfl Try.results69 Try.ntmps69 rfl ?_
  refine WP.seq ?_
  refine WP.region ?_
  refine OPS.alloc rfl rfl rfl rfl (zero_run rfl) rfl H ?_
  clear H; intro g4 w H
  refine OPS.val rfl rfl rfl (Ev.asI rfl) ?_
  refine OPS.nil ?_
  refine WP.seq ?_
  refine WP.region ?_
  refine OPS.val rfl rfl rfl (Ev.mvP rfl) ?_
  refine OPS.val rfl rfl rfl ((by exact Ev.nilCheckP rfl)) ?_
  refine OPS.val rfl rfl rfl (Ev.fieldAddr (fld_run rfl) rfl) ?_
  refine OPS.val rfl rfl rfl (Ev.fieldAddr (fld_run rfl) rfl) ?_
  refine OPS.val rfl rfl rfl (Ev.load1 (agg_run rfl) rfl (by exact H.ldL 1 rfl _ rfl)) ?_
  refine OPS.val rfl rfl rfl (Ev.mvI rfl) ?_
  refine OPS.val rfl rfl rfl ((by exact Ev.indexAddr (el_run rfl) (size_run rfl) rfl rfl rfl (by omega))) ?_
  have hc' := cellsAt_shS H hnb hc
  rw [hcd] at hc'
  refine OPS.val rfl rfl rfl ((by (change Ev _ _ _ _ (Op.load 48 (Operand.tmp 15)) _; exact Ev.loadN [I v, I ns[i].move] (agg_run rfl) (size_run rfl) rfl hc'))) ?_
  refine OPS.alloc rfl rfl rfl rfl (zero_run rfl) rfl H ?_
  clear H; intro g6 w H
  refine OPS.store 0 _ rfl rfl rfl (size_run rfl) rfl (cA rfl) rfl rfl H rfl (by simp) ?_
  clear H; intro w H
  simp only [List.set_cons_zero, List.set_cons_succ, putL, Nat.zero_add] at H
  refine OPS.nil ?_
  refine WP.seq ?_
  refine WP.seq ?_
  refine WP.region ?_
  refine OPS.val rfl rfl rfl (Ev.mvP rfl) ?_
  refine OPS.val rfl rfl rfl (Ev.fieldAddr (fld_run rfl) rfl) ?_
  refine OPS.val rfl rfl rfl (Ev.load1 (agg_run rfl) rfl (by exact H.ldL 0 rfl _ rfl)) ?_
  refine OPS.call (d := some 20) rfl rfl rfl (EvC.func (fun_run rfl)) (tourDrive g m v A B (some ⟨bn, on, none⟩) l tl ns.length ca cb cc hd t s w [g] hok hvm hs (by omega) (rowsS hz (by rw [hgS]; exact hA) H) hA (H.restart (Lv := [⟨g, 106, tourCells t (nightL m A B (some ⟨bn, on, none⟩) l.length tl ns.length ca cb cc hd) s⟩]) (((List.Sublist.refl _).cons _).cons _))) ?_
  rintro _ w ⟨rfl, hdr, Lx, Hx⟩
  refine ⟨_, rfl, ?_⟩
  rw [hD] at hdr
  have Hg : 0 ≤ d → SH w0 S w _ := fun h => SH.call (L1 := [_, _]) (Lv := [⟨g, 106, tourCells t (nightL m A B (some ⟨bn, on, none⟩) l.length tl ns.length ca cb cc hd) s⟩]) H (hdr h)
  replace H := SH.call (L1 := [_, _]) (Lv := [⟨g, 106, tourCells t (nightL m A B (some ⟨bn, on, none⟩) l.length tl ns.length ca cb cc hd) s⟩]) H Hx
  clear hdr Hx
  rw [hD]
  refine OPS.val rfl rfl rfl (Ev.asI rfl) ?_
  refine OPS.nil ?_
  refine WP.seq ?_
  refine WP.region ?_
  refine OPS.val rfl rfl rfl (Ev.mvI rfl) ?_
  refine OPS.val rfl rfl rfl (Ev.neq rfl rfl) ?_
  refine OPS.nil ?_
  refine WP.cond rfl (fun hc3 => ?_) (fun hc3 => ?_)
  · have hdn : d < 0 := by
      rcases Int.lt_or_le d 0 with h | h
      · exact h
      · rw [driveE, if_neg (by omega)] at hc3; simp at hc3
    rw [driveE, if_pos hdn]
    clear Hg
    refine WP.seq ?_
    refine WP.region ?_
    refine OPS.val rfl rfl rfl (Ev.build (bld_128_ (e := fun _ => .int .i64 0))) ?_
    refine OPS.val rfl rfl rfl (Ev.mvI rfl) ?_
    refine OPS.store 1 _ rfl rfl rfl (size_run rfl) rfl (cA rfl) rfl rfl H rfl (by simp) ?_
    clear H; intro w H; try simp only [List.set_cons_zero, List.set_cons_succ, putL, Nat.zero_add] at H
    refine OPS.val rfl rfl rfl (Ev.asI rfl) ?_
    refine OPS.nil ?_
    refine WP.ret ⟨[_, _], ⟨(by exact resCellA 1 H rfl (agg_run rfl) (size_run rfl) (by rfl) rfl), rfl, trivial⟩, ?_⟩
    have he : visitE d t.cap ns[i] s = 15 := by rw [visitE, if_pos hdn]
    rw [he]
    exact ⟨by rw [if_neg (by decide)]; rfl, fun h => absurd h (by decide), _, H⟩
  have hdp : 0 ≤ d := by
    rcases Int.lt_or_le d 0 with h | h
    · rw [driveE, if_pos h] at hc3; simp at hc3
    · exact h
  replace H := Hg hdp
  clear Hg
  unfold tourCells truckCells nightL driveS at H
  simp only [List.cons_append, List.nil_append] at H
  refine WP.skip ?_
  refine WP.seq ?_
  refine WP.seq ?_
  refine WP.rquiet mixed (by kernel_rfl) H ?_
  clear H; intro w hbw5 H
  refine OPS.val rfl rfl rfl (Ev.mvP rfl) ?_
  refine OPS.val rfl rfl rfl ((by exact Ev.nilCheckP rfl)) ?_
  refine OPS.val rfl rfl rfl (Ev.fieldAddr (fld_run rfl) rfl) ?_
  refine OPS.val rfl rfl rfl (Ev.load1 (agg_run rfl) rfl (by exact H.ldL 2 rfl _ rfl)) ?_
  refine OPS.val rfl rfl rfl (Ev.fieldAddr (fld_run rfl) rfl) ?_
  refine OPS.val rfl rfl rfl (Ev.load1 (agg_run rfl) rfl (by exact H.ldL 0 rfl _ rfl)) ?_
  refine OPS.val rfl rfl rfl (Ev.add rfl rfl (by unfold fits; omega)) ?_
  refine OPS.val rfl rfl rfl (Ev.mvP rfl) ?_
  refine OPS.val rfl rfl rfl ((by exact Ev.nilCheckP rfl)) ?_
  refine OPS.val rfl rfl rfl (Ev.fieldAddr (fld_run rfl) rfl) ?_
  refine OPS.val rfl rfl rfl (Ev.fieldAddr (fld_run rfl) rfl) ?_
  refine OPS.val rfl rfl rfl (Ev.load1 (agg_run rfl) rfl (by exact H.ldL 2 rfl _ rfl)) ?_
  refine OPS.callq rfl rfl rfl (EvC.func (fun_run rfl)) (fun w2 hb2 => truckIn _ _ _ _) ?_
  refine OPS.val rfl rfl rfl (Ev.not rfl) ?_
  refine OPS.nilq H ?_
  clear H; intro w hbx5 H
  refine WP.cond rfl (fun hc5 => ?_) (fun hc5 => ?_)
  · refine WP.seq ?_
    refine WP.region ?_
    refine OPS.val rfl rfl rfl (Ev.build (bld_128_ (e := fun _ => .int .i64 0))) ?_
    refine OPS.store 1 _ rfl rfl rfl (size_run rfl) rfl (cA rfl) rfl rfl H rfl (by simp) ?_
    clear H; intro w H; try simp only [List.set_cons_zero, List.set_cons_succ, putL, Nat.zero_add] at H
    refine OPS.val rfl rfl rfl (Ev.asI rfl) ?_
    refine OPS.nil ?_
    refine WP.ret ⟨[_, _], ⟨(by exact resCellA 1 H rfl (agg_run rfl) (size_run rfl) (by rfl) rfl), rfl, trivial⟩, ?_⟩
    have he : visitE d t.cap ns[i] s = 24 := by rw [visitE, if_neg (by omega), if_neg (by simpa using hc5)]
    rw [he]
    exact ⟨by rw [if_neg (by decide)]; rfl, fun h => absurd h (by decide), _, H⟩
  have hok5 : inB (s.load + ns[i].move) 0 t.cap = true := by simpa using hc5
  have he : visitE d t.cap ns[i] s = 0 := by rw [visitE, if_neg (by omega), if_pos hok5]
  rw [he]
  refine WP.skip ?_
  refine WP.seq ?_
  refine WP.region ?_
  refine OPS.val rfl rfl rfl (Ev.mvI rfl) ?_
  refine OPS.val rfl rfl rfl (Ev.mvP rfl) ?_
  refine OPS.val rfl rfl rfl ((by exact Ev.nilCheckP rfl)) ?_
  refine OPS.val rfl rfl rfl (Ev.fieldAddr (fld_run rfl) rfl) ?_
  refine OPS.val rfl rfl rfl (Ev.load1 (agg_run rfl) rfl (by exact H.ldL 2 rfl _ rfl)) ?_
  refine OPS.val rfl rfl rfl (Ev.build (bld_128_0_1 rfl rfl)) ?_
  refine OPS.alloc rfl rfl rfl rfl (zero_run rfl) rfl H ?_
  clear H; intro g8 w H
  refine OPS.store 0 _ rfl rfl rfl (size_run rfl) rfl (cA rfl) rfl rfl H rfl (by simp) ?_
  clear H; intro w H; try simp only [List.set_cons_zero, List.set_cons_succ, putL, Nat.zero_add] at H
  refine OPS.nil ?_
  refine WP.seq ?_
  refine WP.rtail 9 mixed (by kernel_rfl) H ?_
  clear H; intro w hbw8 H
  refine OPS.val rfl rfl rfl (Ev.mvP rfl) ?_
  refine OPS.val rfl rfl rfl ((by exact Ev.nilCheckP rfl)) ?_
  refine OPS.val rfl rfl rfl (Ev.fieldAddr (fld_run rfl) rfl) ?_
  refine OPS.val rfl rfl rfl (Ev.load1 (agg_run rfl) rfl (by exact H.ldL 3 rfl _ rfl)) ?_
  refine OPS.val rfl rfl rfl (Ev.fieldAddr (fld_run rfl) rfl) ?_
  refine OPS.val rfl rfl rfl (Ev.load1 (agg_run rfl) rfl (by exact H.ldL 1 rfl _ rfl)) ?_
  refine OPS.val rfl rfl rfl (Ev.add rfl rfl (by unfold fits; omega)) ?_
  refine OPS.val rfl rfl rfl ((by exact Ev.nilCheckP rfl)) ?_
  refine OPS.val rfl rfl rfl (Ev.fieldAddr (fld_run rfl) rfl) ?_
  refine OPS.nil_s ?_
  refine OPS.store 3 _ rfl rfl rfl (size_run rfl) rfl (cI rfl) rfl rfl H rfl (by simp) ?_
  clear H; intro w H; try simp only [List.set_cons_zero, List.set_cons_succ, putL, Nat.zero_add] at H
  refine OPS.nil ?_
  refine WP.seq ?_
  refine WP.rtail 19 mixed (by kernel_rfl) H ?_
  clear H; intro w hbw9 H
  refine OPS.val rfl rfl rfl (Ev.mvP rfl) ?_
  refine OPS.val rfl rfl rfl ((by exact Ev.nilCheckP rfl)) ?_
  refine OPS.val rfl rfl rfl (Ev.fieldAddr (fld_run rfl) rfl) ?_
  refine OPS.val rfl rfl rfl (Ev.load1 (agg_run rfl) rfl (by exact H.ldL 3 rfl _ rfl)) ?_
  refine OPS.val rfl rfl rfl (Ev.fieldAddr (fld_run rfl) rfl) ?_
  refine OPS.val rfl rfl rfl (Ev.load1 (agg_run rfl) rfl (by exact H.ldL 1 rfl _ rfl)) ?_
  refine OPS.val rfl rfl rfl (Ev.fieldAddr (fld_run rfl) rfl) ?_
  refine OPS.val rfl rfl rfl (Ev.load1 (agg_run rfl) rfl (by exact H.ldL 1 rfl _ rfl)) ?_
  refine OPS.val rfl rfl rfl (Ev.neg rfl (by unfold fits; omega)) ?_
  refine OPS.val rfl rfl rfl (Ev.max rfl rfl) ?_
  refine OPS.val rfl rfl rfl (Ev.mvP rfl) ?_
  refine OPS.val rfl rfl rfl ((by exact Ev.nilCheckP rfl)) ?_
  refine OPS.val rfl rfl rfl (Ev.fieldAddr (fld_run rfl) rfl) ?_
  refine OPS.val rfl rfl rfl (Ev.fieldAddr (fld_run rfl) rfl) ?_
  refine OPS.val rfl rfl rfl (Ev.load1 (agg_run rfl) rfl (by exact H.ldL 3 rfl _ rfl)) ?_
  refine OPS.val rfl rfl rfl (Ev.mul rfl rfl (by unfold fits; omega)) ?_
  refine OPS.val rfl rfl rfl (Ev.add rfl rfl (by unfold fits; omega)) ?_
  refine OPS.val rfl rfl rfl ((by exact Ev.nilCheckP rfl)) ?_
  refine OPS.val rfl rfl rfl (Ev.fieldAddr (fld_run rfl) rfl) ?_
  refine OPS.nil_s ?_
  refine OPS.store 3 _ rfl rfl rfl (size_run rfl) rfl (cI rfl) rfl rfl H rfl (by simp) ?_
  clear H; intro w H; try simp only [List.set_cons_zero, List.set_cons_succ, putL, Nat.zero_add] at H
  refine OPS.nil ?_
  refine WP.seq ?_
  have Hf := H
  replace H := H.drop (L' := [_]) ((((List.Sublist.refl _).cons _).cons _).cons _)
  refine WP.rheldC [74, 75, 76, 77, 78, 79, 80, 81, 82, 83] (fun _ w' => SH w0 S w' [⟨g8, 128, visCells (visitV d hd i ns[i] s)⟩, ⟨g6, 48, [I v, I ns[i].move]⟩, ⟨g4, 128, [I 0, I 0, I 0, I 0]⟩, ⟨g, 106, tourCells t (nightL m A B (some ⟨bn, on, none⟩) l.length tl ns.length ca cb cc hd) (visitT d hd ns[i] s)⟩]) mixed H ?_ ?_
  · clear H; intro w hbw10 H
    refine OPH.take 0 rfl rfl rfl rfl (by kernel_rfl) (by kernel_rfl) (by kernel_rfl) rfl (by exact H) (fun w H => Ev.mvP rfl) ?_
    refine OPH.take 1 rfl rfl rfl rfl (by kernel_rfl) (by kernel_rfl) (by kernel_rfl) rfl (by exact H) (fun w H => (by exact Ev.nilCheckP rfl)) ?_
    refine OPH.take 2 rfl rfl rfl rfl (by kernel_rfl) (by kernel_rfl) (by kernel_rfl) rfl (by exact H) (fun w H => Ev.fieldAddr (fld_run rfl) rfl) ?_
    refine OPH.take 3 rfl rfl rfl rfl (by kernel_rfl) (by kernel_rfl) (by kernel_rfl) rfl (by exact H) (fun w H => Ev.load1 (agg_run rfl) rfl (by exact H.ldL 0 rfl _ rfl)) ?_
    refine OPH.take 4 rfl rfl rfl rfl (by kernel_rfl) (by kernel_rfl) (by kernel_rfl) rfl (by exact H) (fun w H => Ev.mvP rfl) ?_
    refine OPH.take 5 rfl rfl rfl rfl (by kernel_rfl) (by kernel_rfl) (by kernel_rfl) rfl (by exact H) (fun w H => (by exact Ev.nilCheckP rfl)) ?_
    refine OPH.take 6 rfl rfl rfl rfl (by kernel_rfl) (by kernel_rfl) (by kernel_rfl) rfl (by exact H) (fun w H => Ev.fieldAddr (fld_run rfl) rfl) ?_
    refine OPH.take 7 rfl rfl rfl rfl (by kernel_rfl) (by kernel_rfl) (by kernel_rfl) rfl (by exact H) (fun w H => Ev.load1 (agg_run rfl) rfl (by exact H.ldL 0 rfl _ rfl)) ?_
    refine OPH.take 8 rfl rfl rfl rfl (by kernel_rfl) (by kernel_rfl) (by kernel_rfl) rfl (by exact H) (fun w H => Ev.fieldAddr (fld_run rfl) rfl) ?_
    refine OPH.all [9] (by kernel_rfl) (by simp) rfl ?_
    intro i hi; simp only [List.mem_cons, List.not_mem_nil, or_false] at hi
    rcases hi with rfl
    · refine ⟨_, rfl, ?_⟩
      try replace Hf := Hf.toBelow hbw10
      refine OPS.store 0 _ rfl rfl rfl (size_run rfl) rfl (cI rfl) rfl rfl Hf rfl (by simp) ?_
      clear H Hf; intro w Hf
      simp only [List.set_cons_zero, List.set_cons_succ, putL, Nat.zero_add] at Hf
      have H := Hf.drop (L' := [_]) ((((List.Sublist.refl _).cons _).cons _).cons _)
      refine OPS.nil ?_
      refine ⟨(by exact H), ?_⟩
      refine OPH.take 10 rfl rfl rfl rfl (by kernel_rfl) (by kernel_rfl) (by kernel_rfl) rfl (by exact H) (fun w H => Ev.fieldAddr (fld_run rfl) rfl) ?_
      refine OPH.all [11] (by kernel_rfl) (by simp) rfl ?_
      intro i hi; simp only [List.mem_cons, List.not_mem_nil, or_false] at hi
      rcases hi with rfl
      · refine ⟨_, rfl, ?_⟩
        try replace Hf := Hf.toBelow hbw10
        refine OPS.store 0 _ rfl rfl rfl (size_run rfl) rfl (cI rfl) rfl rfl Hf rfl (by simp) ?_
        clear H Hf; intro w Hf
        simp only [List.set_cons_zero, List.set_cons_succ, putL, Nat.zero_add] at Hf
        have H := Hf.drop (L' := [_]) ((((List.Sublist.refl _).cons _).cons _).cons _)
        refine OPS.nil ?_
        refine ⟨(by exact H), ?_⟩
        refine OPH.done (by kernel_rfl) ?_
        exact ⟨(by repeat (first | exact Agree.refl _ _ | exact Agree.mix _ _ _ | refine Agree.upd rfl ?_ | refine Agree.mix2 rfl ?_)), (by unfold visitT; rw [hvT]; exact Hf)⟩
  clear H
  rintro u w H
  refine WP.seq ?_
  refine WP.region ?_
  refine OPS.val rfl rfl rfl ((by exact Ev.loadO 0 H rfl (agg_run rfl) (size_run rfl) (by rfl) rfl)) ?_
  refine OPS.store 2 _ rfl rfl rfl (size_run rfl) rfl (cA rfl) rfl rfl H rfl (by simp) ?_
  clear H; intro w H; try simp only [List.set_cons_zero, List.set_cons_succ, putL, Nat.zero_add] at H
  refine OPS.val rfl rfl rfl (Ev.asI rfl) ?_
  refine OPS.nil ?_
  refine WP.ret ⟨[_, _], ⟨(by exact resCellA 2 H rfl (agg_run rfl) (size_run rfl) (by rfl) rfl), rfl, trivial⟩, ?_⟩
  exact ⟨rfl, fun _ => H.drop (L' := [_]) ((((List.Sublist.refl _).cons _).cons _).cons _), _, H⟩
def homeE (d hd : Int) (t : Truck) (s : TS) : Int := if d < 0 then 15 else if t.to_ < s.now + d + s.load * hd then 25 else 0
def homeT (d hd : Int) (t : Truck) (s : TS) : TS := ⟨t.depot.toNat, s.now + d + s.load * hd, s.load, s.driven + d⟩
set_option maxHeartbeats 1000000 in
theorem tourHome (g m : Nat) (A B C : Option Addr) (l : List Edg) (tl nl ca cb cc : Nat) (hd : Int) (t : Truck) (s : TS) (w0 : World) (hok : RoadOk m l) (hs : s.at_ < m) (hb : -100000000000 ≤ s.now ∧ s.now ≤ 100000000000 ∧ -100000000000 ≤ s.driven ∧ s.driven ≤ 100000000000 ∧ -100000 ≤ s.load ∧ s.load ≤ 100000)
    (hx : 0 ≤ t.depot ∧ t.depot < m) (hh : 0 ≤ hd ∧ hd ≤ 3600)
    (hz : EdgsAt w0 A l) (hA : l ≠ [] → Off A [g]) (H0 : SH w0 [g] w0 [⟨g, 106, tourCells t (nightL m A B C l.length tl nl ca cb cc hd) s⟩]) :
    Calls Try.prog 70 #[.pointer (some ⟨g, 0, none⟩)] w0 fun e w' => e = .returned (I (homeE (roadT m l s.at_ t.depot.toNat) hd t s)) ∧
      (homeE (roadT m l s.at_ t.depot.toNat) hd t s = 0 → SH w0 [g] w' [⟨g, 106, tourCells t (nightL m A B C l.length tl nl ca cb cc hd) (homeT (roadT m l s.at_ t.depot.toNat) hd t s)⟩]) ∧ ∃ L, SH w0 [g] w' L := by
  have H := H0
  obtain ⟨v, hv⟩ := Int.eq_ofNat_of_zero_le hx.1
  have hvm : v < m := by omega
  have hvT : t.depot.toNat = v := by omega
  rw [hvT]
  have hbd := roadT_bd hok hs hvm
  generalize hD : roadT m l s.at_ v = d at *
  have hmul : -360000000 ≤ s.load * hd ∧ s.load * hd ≤ 360000000 := by
    have h1 : s.load * hd ≤ 100000 * hd := Int.mul_le_mul_of_nonneg_right hb.2.2.2.2.2 hh.1
    have h2 : -100000 * hd ≤ s.load * hd := Int.mul_le_mul_of_nonneg_right hb.2.2.2.2.1 hh.1
    omega
  unfold tourCells truckCells nightL at H
  simp only [List.cons_append, List.nil_append] at H
  rw [hv] at H
  refine Calls.ofWP Try.func70 rfl Try.results70 Try.ntmps70 rfl ?_
  refine WP.seq ?_
  refine WP.region ?_
  refine OPS.val rfl rfl rfl (Ev.asI rfl) ?_
  refine OPS.nil ?_
  refine WP.seq ?_
  refine WP.seq ?_
  refine WP.region ?_
  refine OPS.val rfl rfl rfl (Ev.mvP rfl) ?_
  refine OPS.val rfl rfl rfl (Ev.mvP rfl) ?_
  refine OPS.val rfl rfl rfl ((by exact Ev.nilCheckP rfl)) ?_
  refine OPS.val rfl rfl rfl (Ev.fieldAddr (fld_run rfl) rfl) ?_
  refine OPS.val rfl rfl rfl (Ev.fieldAddr (fld_run rfl) rfl) ?_
  refine OPS.val rfl rfl rfl (Ev.load1 (agg_run rfl) rfl (by exact H.ldL 0 rfl _ rfl)) ?_
  refine OPS.call (d := some 10) rfl rfl rfl (EvC.func (fun_run rfl)) (tourDrive g m v A B C l tl nl ca cb cc hd t s w0 [g] hok hvm hs (by omega) hz hA H0) ?_
  rintro _ w ⟨rfl, Hg, Lx, Hx⟩
  refine ⟨_, rfl, ?_⟩
  rw [hD] at Hg
  replace H := Hx
  clear Hx
  rw [hD]
  refine OPS.val rfl rfl rfl (Ev.asI rfl) ?_
  refine OPS.nil ?_
  refine WP.seq ?_
  refine WP.region ?_
  refine OPS.val rfl rfl rfl (Ev.mvI rfl) ?_
  refine OPS.val rfl rfl rfl (Ev.neq rfl rfl) ?_
  refine OPS.nil ?_
  refine WP.cond rfl (fun hc2 => ?_) (fun hc2 => ?_)
  · have hdn : d < 0 := by
      rcases Int.lt_or_le d 0 with h | h
      · exact h
      · rw [driveE, if_neg (by omega)] at hc2; simp at hc2
    rw [driveE, if_pos hdn]
    clear Hg
    refine WP.seq ?_
    refine WP.region ?_
    refine OPS.val rfl rfl rfl (Ev.mvI rfl) ?_
    refine OPS.val rfl rfl rfl (Ev.asI rfl) ?_
    refine OPS.nil ?_
    refine WP.ret ⟨_, rfl, ?_⟩
    have he : homeE d hd t s = 15 := by rw [homeE, if_pos hdn]
    rw [he]
    exact ⟨rfl, fun h => absurd h (by decide), _, H⟩
  have hdp : 0 ≤ d := by
    rcases Int.lt_or_le d 0 with h | h
    · rw [driveE, if_pos h] at hc2; simp at hc2
    · exact h
  replace H := Hg hdp
  clear Hg
  unfold tourCells truckCells nightL driveS at H
  simp only [List.cons_append, List.nil_append] at H
  refine WP.skip ?_
  refine WP.seq ?_
  refine WP.rtail 17 mixed (by kernel_rfl) H ?_
  clear H; intro w hbw4 H
  refine OPS.val rfl rfl rfl (Ev.mvP rfl) ?_
  refine OPS.val rfl rfl rfl ((by exact Ev.nilCheckP rfl)) ?_
  refine OPS.val rfl rfl rfl (Ev.fieldAddr (fld_run rfl) rfl) ?_
  refine OPS.val rfl rfl rfl (Ev.load1 (agg_run rfl) rfl (by exact H.ldL 0 rfl _ rfl)) ?_
  refine OPS.val rfl rfl rfl (Ev.mvP rfl) ?_
  refine OPS.val rfl rfl rfl ((by exact Ev.nilCheckP rfl)) ?_
  refine OPS.val rfl rfl rfl (Ev.fieldAddr (fld_run rfl) rfl) ?_
  refine OPS.val rfl rfl rfl (Ev.load1 (agg_run rfl) rfl (by exact H.ldL 0 rfl _ rfl)) ?_
  refine OPS.val rfl rfl rfl (Ev.mvP rfl) ?_
  refine OPS.val rfl rfl rfl ((by exact Ev.nilCheckP rfl)) ?_
  refine OPS.val rfl rfl rfl (Ev.fieldAddr (fld_run rfl) rfl) ?_
  refine OPS.val rfl rfl rfl (Ev.fieldAddr (fld_run rfl) rfl) ?_
  refine OPS.val rfl rfl rfl (Ev.load1 (agg_run rfl) rfl (by exact H.ldL 0 rfl _ rfl)) ?_
  refine OPS.val rfl rfl rfl (Ev.mul rfl rfl (by unfold fits; omega)) ?_
  refine OPS.val rfl rfl rfl (Ev.add rfl rfl (by unfold fits; omega)) ?_
  refine OPS.val rfl rfl rfl ((by exact Ev.nilCheckP rfl)) ?_
  refine OPS.val rfl rfl rfl (Ev.fieldAddr (fld_run rfl) rfl) ?_
  refine OPS.nil_s ?_
  refine OPS.store 0 _ rfl rfl rfl (size_run rfl) rfl (cI rfl) rfl rfl H rfl (by simp) ?_
  clear H; intro w H; try simp only [List.set_cons_zero, List.set_cons_succ, putL, Nat.zero_add] at H
  refine OPS.nil ?_
  refine WP.seq ?_
  refine WP.seq ?_
  refine WP.rstill mixed (by kernel_rfl) H ?_
  clear H; intro w hbw5 H
  refine OPS.val rfl rfl rfl (Ev.mvP rfl) ?_
  refine OPS.val rfl rfl rfl ((by exact Ev.nilCheckP rfl)) ?_
  refine OPS.val rfl rfl rfl (Ev.fieldAddr (fld_run rfl) rfl) ?_
  refine OPS.val rfl rfl rfl (Ev.load1 (agg_run rfl) rfl (by exact H.ldL 0 rfl _ rfl)) ?_
  refine OPS.val rfl rfl rfl (Ev.mvP rfl) ?_
  refine OPS.val rfl rfl rfl ((by exact Ev.nilCheckP rfl)) ?_
  refine OPS.val rfl rfl rfl (Ev.fieldAddr (fld_run rfl) rfl) ?_
  refine OPS.val rfl rfl rfl (Ev.fieldAddr (fld_run rfl) rfl) ?_
  refine OPS.val rfl rfl rfl (Ev.fieldAddr (fld_run rfl) rfl) ?_
  refine OPS.val rfl rfl rfl (Ev.load1 (agg_run rfl) rfl (by exact H.ldL 0 rfl _ rfl)) ?_
  refine OPS.val rfl rfl rfl (Ev.gtr rfl rfl) ?_
  refine OPS.nil_s ?_
  refine WP.cond rfl (fun hc5 => ?_) (fun hc5 => ?_)
  · refine WP.seq ?_
    refine WP.region ?_
    refine OPS.val rfl rfl rfl (Ev.asI rfl) ?_
    refine OPS.nil ?_
    refine WP.ret ⟨_, rfl, ?_⟩
    have hlt : t.to_ < s.now + d + s.load * hd := by simpa using hc5
    have he : homeE d hd t s = 25 := by rw [homeE, if_neg (by omega), if_pos hlt]
    rw [he]
    exact ⟨rfl, fun h => absurd h (by decide), _, H⟩
  refine WP.skip ?_
  refine WP.seq ?_
  refine WP.region ?_
  refine OPS.val rfl rfl rfl (Ev.asI rfl) ?_
  refine OPS.nil ?_
  refine WP.ret ⟨_, rfl, ?_⟩
  have hlt : ¬ t.to_ < s.now + d + s.load * hd := by simpa using hc5
  have he : homeE d hd t s = 0 := by rw [homeE, if_neg (by omega), if_neg hlt]
  rw [he]
  exact ⟨rfl, fun _ => by unfold homeT; rw [hvT]; exact H, _, H⟩
end Go.Proofs.Ytgjfjbphngamgaa

/-
  Walk: walk.
-/
set_option linter.all false
namespace Go.Proofs.Ytgjfjbphngamgaa
open Go Go.W Go.RowKit

section
variable (D : Nat → Nat → Int) (cap hd : Int) (ns : List Need)
def needAt (i : Int) : Need := ns.getD i.toNat default
def goD (i : Int) (s : TS) : Int := D s.at_ (needAt ns i).node.toNat
def goT : List Int → TS → TS
  | [], s => s
  | i :: r, s => goT r (visitT (goD D ns i s) hd (needAt ns i) s)
def goE : List Int → TS → Int
  | [], _ => 0
  | i :: r, s => if visitE (goD D ns i s) cap (needAt ns i) s ≠ 0 then visitE (goD D ns i s) cap (needAt ns i) s else goE r (visitT (goD D ns i s) hd (needAt ns i) s)
def goV : List Int → TS → List Vis
  | [], _ => []
  | i :: r, s => visitV (goD D ns i s) hd i (needAt ns i) s :: goV r (visitT (goD D ns i s) hd (needAt ns i) s)
theorem goT_app : ∀ (a b : List Int) (s : TS), goT D hd ns (a ++ b) s = goT D hd ns b (goT D hd ns a s)
  | [], _, _ => rfl
  | _ :: a, b, s => goT_app a b _
theorem goV_app : ∀ (a b : List Int) (s : TS), goV D hd ns (a ++ b) s = goV D hd ns a s ++ goV D hd ns b (goT D hd ns a s)
  | [], _, _ => rfl
  | _ :: a, b, s => congrArg (_ :: ·) (goV_app a b _)
theorem goE_app : ∀ (a b : List Int) (s : TS), goE D cap hd ns (a ++ b) s = if goE D cap hd ns a s ≠ 0 then goE D cap hd ns a s else goE D cap hd ns b (goT D hd ns a s)
  | [], b, s => by simp [goE, goT]
  | i :: a, b, s => by
    have h := goE_app a b (visitT (goD D ns i s) hd (needAt ns i) s)
    show (if visitE (goD D ns i s) cap (needAt ns i) s ≠ 0 then visitE (goD D ns i s) cap (needAt ns i) s else goE D cap hd ns (a ++ b) (visitT (goD D ns i s) hd (needAt ns i) s)) = _
    rw [h]
    simp only [goE, goT]
    by_cases hv : visitE (goD D ns i s) cap (needAt ns i) s = 0
    · simp [hv]
    · simp [hv]
theorem goV_len : ∀ (a : List Int) (s : TS), (goV D hd ns a s).length = a.length
  | [], _ => rfl
  | _ :: a, s => congrArg (· + 1) (goV_len a _)
end
def startT (t : Truck) : TS := ⟨t.depot.toNat, t.from_, 0, 0⟩
def outB (k i : Int) : Bool := !inB i 0 (k - 1)
def routeErr (ts : List Truck) (ns : List Need) (rt : Int) (rn : List Int) : Int :=
  if outB ts.length rt = true ∨ rn.any (outB ns.length) = true then 7 else if twiceB rn = true then 6 else 0
noncomputable def roadD (n : Int) (l : List Edg) (a v : Nat) : Int := roadT n.toNat l a v
noncomputable def endT (n : Int) (l : List Edg) (ts : List Truck) (ns : List Need) (hd : Int) (rt : Int) (rn : List Int) : TS :=
  goT (roadD n l) hd ns rn (startT (ts.getD rt.toNat default))
noncomputable def walkE (n : Int) (l : List Edg) (ts : List Truck) (ns : List Need) (hd : Int) (rt : Int) (rn : List Int) : Int :=
  if nightErr n l ts ns hd ≠ 0 then nightErr n l ts ns hd else if routeErr ts ns rt rn ≠ 0 then routeErr ts ns rt rn
  else if goE (roadD n l) (ts.getD rt.toNat default).cap hd ns rn (startT (ts.getD rt.toNat default)) ≠ 0 then goE (roadD n l) (ts.getD rt.toNat default).cap hd ns rn (startT (ts.getD rt.toNat default))
  else homeE (roadD n l (endT n l ts ns hd rt rn).at_ (ts.getD rt.toNat default).depot.toNat) hd (ts.getD rt.toNat default) (endT n l ts ns hd rt rn)
noncomputable def walkT (n : Int) (l : List Edg) (ts : List Truck) (ns : List Need) (hd : Int) (rt : Int) (rn : List Int) : TS :=
  homeT (roadD n l (endT n l ts ns hd rt rn).at_ (ts.getD rt.toNat default).depot.toNat) hd (ts.getD rt.toNat default) (endT n l ts ns hd rt rn)
noncomputable def walkV (n : Int) (l : List Edg) (ts : List Truck) (ns : List Need) (hd : Int) (rt : Int) (rn : List Int) : List Vis :=
  goV (roadD n l) hd ns rn (startT (ts.getD rt.toNat default))

/-- what a good night gives -/
structure NightOk (m : Nat) (l : List Edg) (ts : List Truck) (ns : List Need) (hd : Int) : Prop where
  road : RoadOk m l
  tl : ts.length ≤ 8
  nl : ns.length ≤ 16
  tr : ∀ t ∈ ts, (0 ≤ t.depot ∧ t.depot < m) ∧ (1 ≤ t.cap ∧ t.cap ≤ 32) ∧ 0 ≤ t.from_ ∧ t.from_ ≤ t.to_ ∧ t.to_ ≤ 86400
  nd : ∀ x ∈ ns, (0 ≤ x.node ∧ x.node < m) ∧ x.move ≠ 0 ∧ -32 ≤ x.move ∧ x.move ≤ 32
  hh : 0 ≤ hd ∧ hd ≤ 3600
  one : (ns.map (·.node)).Nodup
theorem nightOk_of {n : Int} {l : List Edg} {ts : List Truck} {ns : List Need} {hd : Int} (h : nightErr n l ts ns hd = 0) : ∃ m : Nat, n = m ∧ NightOk m l ts ns hd := by
  unfold nightErr at h
  split at h
  · rename_i h1; exact absurd h h1
  · rename_i h1
    obtain ⟨m, rfl, hok⟩ := roadOk_of (by simpa using h1)
    split at h
    · cases h
    · rename_i h2
      split at h
      · rename_i h3; exact absurd h h3
      · rename_i h3
        split at h
        · rename_i h4; exact absurd h h4
        · rename_i h4
          split at h
          · cases h
          · rename_i h5
            split at h
            · rename_i h6
              have h2' : ts.length ≤ 8 ∧ ns.length ≤ 16 := by simp [fullB] at h2; omega
              refine ⟨m, rfl, hok, h2'.1, h2'.2, fun t ht => ?_, fun x hx => ?_, by simpa [inB] using h6, ?_⟩
              · have := trucksErr_ok (by simpa using h3) t ht
                simp [truckBad, truckRange, inB] at this
                omega
              · have := needsErr_ok (by simpa using h4) x hx
                simp [needBad, needRange, inB] at this
                omega
              · simpa [needTwice, twiceB] using h5
            · cases h
/-- numbers of a range, none twice -/
theorem nodup_len {rn : List Int} {N : Nat} (h1 : rn.Nodup) (h2 : ∀ i ∈ rn, 0 ≤ i ∧ i < N) : rn.length ≤ N := by
  have h3 : (rn.map Int.toNat).Nodup := by
    rw [List.nodup_iff_pairwise_ne, List.pairwise_map]
    refine List.Pairwise.imp_of_mem ?_ (List.nodup_iff_pairwise_ne.1 h1)
    intro a b ha hb hne he
    have := h2 a ha
    have := h2 b hb
    omega
  have h4 : (rn.map Int.toNat).length ≤ (List.range N).length := by
    refine List.Nodup.length_le_of_subset h3 (fun x hx => ?_)
    obtain ⟨i, hi, rfl⟩ := List.mem_map.1 hx
    have := h2 i hi
    simp; omega
  simpa using h4
theorem routeOk_of {ts : List Truck} {ns : List Need} {rt : Int} {rn : List Int} (h : routeErr ts ns rt rn = 0) : (0 ≤ rt ∧ rt < ts.length) ∧ (∀ i ∈ rn, 0 ≤ i ∧ i < ns.length) ∧ rn.Nodup ∧ rn.length ≤ ns.length := by
  unfold routeErr at h
  split at h
  · cases h
  · rename_i h1
    split at h
    · cases h
    · rename_i h2
      have h3 : rn.Nodup := by simpa [twiceB] using h2
      have h4 : ∀ i ∈ rn, 0 ≤ i ∧ i < ns.length := fun i hi => by
        have h5 : outB ns.length i = false := by
          cases hc : outB ns.length i with
          | true => exact absurd (Or.inr (List.any_eq_true.2 ⟨i, hi, hc⟩)) h1
          | false => rfl
        simp [outB, inB] at h5; omega
      refine ⟨?_, h4, h3, nodup_len h3 h4⟩
      have h5 : outB ts.length rt = false := by
        cases hc : outB ts.length rt with
        | true => exact absurd (Or.inl hc) h1
        | false => rfl
      simp [outB, inB] at h5; omega
/-- the state after some visits stays within bounds -/
structure TSOk (m : Nat) (cap : Int) (j : Nat) (s : TS) : Prop where
  at_ : s.at_ < m
  now : 0 ≤ s.now ∧ s.now ≤ 86400 + 200000 * j
  driven : 0 ≤ s.driven ∧ s.driven ≤ 64000 * j
  load : 0 ≤ s.load ∧ s.load ≤ cap
end Go.Proofs.Ytgjfjbphngamgaa
