/-
  Walks: visit, home of a tour.
-/
import Derived.Test.YtfddebpeiilohaaT9
set_option linter.all false
namespace Go.Proofs.Ytfddebpeiilohaa
open Go Go.W Go.RowKit

structure Vis where
  need : Int
  arrive : Int
  leave : Int
  load : Int
instance : Inhabited Vis := ⟨⟨0, 0, 0, 0⟩⟩
def visCells (v : Vis) : List Value := [I v.need, I v.arrive, I v.leave, I v.load]
theorem visCells_len (v : Vis) : (visCells v).length = 4 := rfl
def absI (z : Int) : Int := if z < -z then -z else z
def visitE (d cap : Int) (x : Need) (s : TS) : Int := if d < 0 then 15 else if inB (s.load + x.move) 0 cap = true then 0 else 24
def visitV (d hd : Int) (i : Int) (x : Need) (s : TS) : Vis := ⟨i, s.now + d, s.now + d + absI x.move * hd, s.load + x.move⟩
def visitT (d hd : Int) (x : Need) (s : TS) : TS := ⟨x.node.toNat, s.now + d + absI x.move * hd, s.load + x.move, s.driven + d⟩

set_option maxHeartbeats 1000000 in
theorem tourVisit (g m i : Nat) (A B C : Option Addr) (l : List Edg) (ns : List Need) (tl ca cb cc : Nat) (hd : Int) (t : Truck) (s : TS) (w0 : World) (S : List Nat) (hok : RoadOk m l) (hs : s.at_ < m) (hb : -100000000000 ≤ s.now ∧ s.now ≤ 100000000000 ∧ -100000000000 ≤ s.driven ∧ s.driven ≤ 100000000000 ∧ -100000 ≤ s.load ∧ s.load ≤ 100000)
    (hi : i < ns.length) (hx : 0 ≤ ns[i].node ∧ ns[i].node < m ∧ -32 ≤ ns[i].move ∧ ns[i].move ≤ 32) (hh : 0 ≤ hd ∧ hd ≤ 3600)
    (hz : EdgsAt w0 A l) (hA : l ≠ [] → Off A [g]) (hn : RowsAt 2 needCells w0 C ns) (hC : ns ≠ [] → Off C S) (H0 : SH w0 S w0 [⟨g, 70, tourCells t (nightL m A B C l.length tl ns.length ca cb cc hd) s⟩]) (hgS : S = [g]) :
    Calls Try.prog 58 #[.pointer (some ⟨g, 0, none⟩), I i] w0 fun e w' => e = .returned (.tuple #[.agg (visCells (if visitE (roadT m l s.at_ ns[i].node.toNat) t.cap ns[i] s = 0 then visitV (roadT m l s.at_ ns[i].node.toNat) hd i ns[i] s else default)).toArray, I (visitE (roadT m l s.at_ ns[i].node.toNat) t.cap ns[i] s)]) ∧
      (visitE (roadT m l s.at_ ns[i].node.toNat) t.cap ns[i] s = 0 → SH w0 S w' [⟨g, 70, tourCells t (nightL m A B C l.length tl ns.length ca cb cc hd) (visitT (roadT m l s.at_ ns[i].node.toNat) hd ns[i] s)⟩]) ∧ ∃ L, SH w0 S w' L := by
  have H := H0
  obtain ⟨v, hv⟩ := Int.eq_ofNat_of_zero_le hx.1
  have hvm : v < m := by omega
  have hvT : ns[i].node.toNat = v := by omega
  rw [hvT]
  have hbd := roadT_bd hok hs hvm
  generalize hD : roadT m l s.at_ v = d at *
  have hxa : 0 ≤ absI ns[i].move ∧ absI ns[i].move ≤ 32 := by unfold absI; split <;> omega
  have hmul : 0 ≤ absI ns[i].move * hd ∧ absI ns[i].move * hd ≤ 115200 := by
    refine ⟨Int.mul_nonneg hxa.1 hh.1, ?_⟩
    calc absI ns[i].move * hd ≤ 32 * hd := Int.mul_le_mul_of_nonneg_right hxa.2 hh.1
      _ ≤ 115200 := by omega
  have hmul2 : 0 ≤ (if ns[i].move < -ns[i].move then -ns[i].move else ns[i].move) * hd ∧ (if ns[i].move < -ns[i].move then -ns[i].move else ns[i].move) * hd ≤ 115200 := hmul
  obtain ⟨bn, on, rfl, hc⟩ := hn i hi
  have hnb : bn ∉ S := hC (by intro h; subst h; simp at hi) bn on rfl
  have hcd : needCells ns[i] = [I v, I ns[i].move] := by unfold needCells; rw [hv]
  unfold tourCells truckCells nightL at H
  simp only [List.cons_append, List.nil_append] at H
  refine Calls.ofWPc Try.func58 rfl Try.results58 Try.ntmps58 rfl ?_
  refine WP.seq ?_
  refine WP.region ?_
  refine OPS.alloc rfl rfl rfl rfl (zero_run rfl) rfl H ?_
  clear H; intro g4 w H
  refine OPS.val rfl rfl rfl (Ev.asI rfl) ?_
  refine OPS.nil ?_
  refine WP.seq ?_
  refine WP.region ?_
  refine OPS.val rfl rfl rfl (Ev.mvP rfl) ?_
  refine OPS.val rfl rfl rfl ((by exact Ev.nilCheckP rfl)) ?_
  refine OPS.val rfl rfl rfl (Ev.fieldAddr (fld_run rfl) rfl) ?_
  refine OPS.val rfl rfl rfl (Ev.fieldAddr (fld_run rfl) rfl) ?_
  refine OPS.val rfl rfl rfl (Ev.load1 (agg_run rfl) rfl (by exact H.ldL 1 rfl _ rfl)) ?_
  refine OPS.val rfl rfl rfl (Ev.mvI rfl) ?_
  refine OPS.val rfl rfl rfl ((by exact Ev.indexAddr (el_run rfl) (size_run rfl) rfl rfl rfl (by omega))) ?_
  have hc' := cellsAt_shS H hnb hc
  rw [hcd] at hc'
  refine OPS.val rfl rfl rfl ((by (change Ev _ _ _ _ (Op.load 64 (Operand.tmp 15)) _; exact Ev.loadN [I v, I ns[i].move] (agg_run rfl) (size_run rfl) rfl hc'))) ?_
  refine OPS.alloc rfl rfl rfl rfl (zero_run rfl) rfl H ?_
  clear H; intro g6 w H
  refine OPS.store 0 _ rfl rfl rfl (size_run rfl) rfl (cA rfl) rfl rfl H rfl (by simp) ?_
  clear H; intro w H
  simp only [List.set_cons_zero, List.set_cons_succ, putL, Nat.zero_add] at H
  refine OPS.nil ?_
  refine WP.seq ?_
  refine WP.seq ?_
  refine WP.region ?_
  refine OPS.val rfl rfl rfl (Ev.mvP rfl) ?_
  refine OPS.val rfl rfl rfl (Ev.fieldAddr (fld_run rfl) rfl) ?_
  refine OPS.val rfl rfl rfl (Ev.load1 (agg_run rfl) rfl (by exact H.ldL 0 rfl _ rfl)) ?_
  refine OPS.call (d := some 20) rfl rfl rfl (EvC.func (fun_run rfl)) (tourDrive g m v A B (some ⟨bn, on, none⟩) l tl ns.length ca cb cc hd t s w [g] hok hvm hs (by omega) (rowsS hz (by rw [hgS]; exact hA) H) hA (H.restart (Lv := [⟨g, 70, tourCells t (nightL m A B (some ⟨bn, on, none⟩) l.length tl ns.length ca cb cc hd) s⟩]) (((List.Sublist.refl _).cons _).cons _))) ?_
  rintro _ w ⟨rfl, hdr, Lx, Hx⟩
  refine ⟨_, rfl, ?_⟩
  rw [hD] at hdr
  have Hg : 0 ≤ d → SH w0 S w _ := fun h => SH.call (L1 := [_, _]) (Lv := [⟨g, 70, tourCells t (nightL m A B (some ⟨bn, on, none⟩) l.length tl ns.length ca cb cc hd) s⟩]) H (hdr h)
  replace H := SH.call (L1 := [_, _]) (Lv := [⟨g, 70, tourCells t (nightL m A B (some ⟨bn, on, none⟩) l.length tl ns.length ca cb cc hd) s⟩]) H Hx
  clear hdr Hx
  rw [hD]
  refine OPS.val rfl rfl rfl (Ev.asI rfl) ?_
  refine OPS.nil ?_
  refine WP.seq ?_
  refine WP.region ?_
  refine OPS.val rfl rfl rfl (Ev.mvI rfl) ?_
  refine OPS.val rfl rfl rfl (Ev.neq rfl rfl) ?_
  refine OPS.nil ?_
  refine WP.cond rfl (fun hc3 => ?_) (fun hc3 => ?_)
  · have hdn : d < 0 := by
      rcases Int.lt_or_le d 0 with h | h
      · exact h
      · rw [driveE, if_neg (by omega)] at hc3; simp at hc3
    rw [driveE, if_pos hdn]
    clear Hg
    refine WP.seq ?_
    refine WP.region ?_
    refine OPS.val rfl rfl rfl (Ev.build (bld_99_ (e := fun _ => .int .i64 0))) ?_
    refine OPS.val rfl rfl rfl (Ev.mvI rfl) ?_
    refine OPS.store 1 _ rfl rfl rfl (size_run rfl) rfl (cA rfl) rfl rfl H rfl (by simp) ?_
    clear H; intro w H; try simp only [List.set_cons_zero, List.set_cons_succ, putL, Nat.zero_add] at H
    refine OPS.val rfl rfl rfl (Ev.asI rfl) ?_
    refine OPS.nil ?_
    refine WP.ret ⟨[_, _], ⟨(by exact resCellA 1 H rfl (agg_run rfl) (size_run rfl) (by rfl) rfl), rfl, trivial⟩, ?_⟩
    have he : visitE d t.cap ns[i] s = 15 := by rw [visitE, if_pos hdn]
    rw [he]
    exact ⟨by rw [if_neg (by decide)]; rfl, fun h => absurd h (by decide), _, H⟩
  have hdp : 0 ≤ d := by
    rcases Int.lt_or_le d 0 with h | h
    · rw [driveE, if_pos h] at hc3; simp at hc3
    · exact h
  replace H := Hg hdp
  clear Hg
  unfold tourCells truckCells nightL driveS at H
  simp only [List.cons_append, List.nil_append] at H
  refine WP.skip ?_
  refine WP.seq ?_
  refine WP.seq ?_
  refine WP.rquiet mixed (by kernel_rfl) H ?_
  clear H; intro w hbw5 H
  refine OPS.val rfl rfl rfl (Ev.mvP rfl) ?_
  refine OPS.val rfl rfl rfl ((by exact Ev.nilCheckP rfl)) ?_
  refine OPS.val rfl rfl rfl (Ev.fieldAddr (fld_run rfl) rfl) ?_
  refine OPS.val rfl rfl rfl (Ev.load1 (agg_run rfl) rfl (by exact H.ldL 2 rfl _ rfl)) ?_
  refine OPS.val rfl rfl rfl (Ev.fieldAddr (fld_run rfl) rfl) ?_
  refine OPS.val rfl rfl rfl (Ev.load1 (agg_run rfl) rfl (by exact H.ldL 0 rfl _ rfl)) ?_
  refine OPS.val rfl rfl rfl (Ev.add rfl rfl (by unfold fits; omega)) ?_
  refine OPS.val rfl rfl rfl (Ev.mvP rfl) ?_
  refine OPS.val rfl rfl rfl ((by exact Ev.nilCheckP rfl)) ?_
  refine OPS.val rfl rfl rfl (Ev.fieldAddr (fld_run rfl) rfl) ?_
  refine OPS.val rfl rfl rfl (Ev.fieldAddr (fld_run rfl) rfl) ?_
  refine OPS.val rfl rfl rfl (Ev.load1 (agg_run rfl) rfl (by exact H.ldL 2 rfl _ rfl)) ?_
  refine OPS.callq rfl rfl rfl (EvC.func (fun_run rfl)) (fun w2 hb2 => truckIn _ _ _ _) ?_
  refine OPS.val rfl rfl rfl (Ev.not rfl) ?_
  refine OPS.nilq H ?_
  clear H; intro w hbx5 H
  refine WP.cond rfl (fun hc5 => ?_) (fun hc5 => ?_)
  · refine WP.seq ?_
    refine WP.region ?_
    refine OPS.val rfl rfl rfl (Ev.build (bld_99_ (e := fun _ => .int .i64 0))) ?_
    refine OPS.store 1 _ rfl rfl rfl (size_run rfl) rfl (cA rfl) rfl rfl H rfl (by simp) ?_
    clear H; intro w H; try simp only [List.set_cons_zero, List.set_cons_succ, putL, Nat.zero_add] at H
    refine OPS.val rfl rfl rfl (Ev.asI rfl) ?_
    refine OPS.nil ?_
    refine WP.ret ⟨[_, _], ⟨(by exact resCellA 1 H rfl (agg_run rfl) (size_run rfl) (by rfl) rfl), rfl, trivial⟩, ?_⟩
    have he : visitE d t.cap ns[i] s = 24 := by rw [visitE, if_neg (by omega), if_neg (by simpa using hc5)]
    rw [he]
    exact ⟨by rw [if_neg (by decide)]; rfl, fun h => absurd h (by decide), _, H⟩
  have hok5 : inB (s.load + ns[i].move) 0 t.cap = true := by simpa using hc5
  have he : visitE d t.cap ns[i] s = 0 := by rw [visitE, if_neg (by omega), if_pos hok5]
  rw [he]
  refine WP.skip ?_
  refine WP.seq ?_
  refine WP.region ?_
  refine OPS.val rfl rfl rfl (Ev.mvI rfl) ?_
  refine OPS.val rfl rfl rfl (Ev.mvP rfl) ?_
  refine OPS.val rfl rfl rfl ((by exact Ev.nilCheckP rfl)) ?_
  refine OPS.val rfl rfl rfl (Ev.fieldAddr (fld_run rfl) rfl) ?_
  refine OPS.val rfl rfl rfl (Ev.load1 (agg_run rfl) rfl (by exact H.ldL 2 rfl _ rfl)) ?_
  refine OPS.val rfl rfl rfl (Ev.build (bld_99_0_1 rfl rfl)) ?_
  refine OPS.alloc rfl rfl rfl rfl (zero_run rfl) rfl H ?_
  clear H; intro g8 w H
  refine OPS.store 0 _ rfl rfl rfl (size_run rfl) rfl (cA rfl) rfl rfl H rfl (by simp) ?_
  clear H; intro w H; try simp only [List.set_cons_zero, List.set_cons_succ, putL, Nat.zero_add] at H
  refine OPS.nil ?_
  refine WP.seq ?_
  refine WP.rtail 9 mixed (by kernel_rfl) H ?_
  clear H; intro w hbw8 H
  refine OPS.val rfl rfl rfl (Ev.mvP rfl) ?_
  refine OPS.val rfl rfl rfl ((by exact Ev.nilCheckP rfl)) ?_
  refine OPS.val rfl rfl rfl (Ev.fieldAddr (fld_run rfl) rfl) ?_
  refine OPS.val rfl rfl rfl (Ev.load1 (agg_run rfl) rfl (by exact H.ldL 3 rfl _ rfl)) ?_
  refine OPS.val rfl rfl rfl (Ev.fieldAddr (fld_run rfl) rfl) ?_
  refine OPS.val rfl rfl rfl (Ev.load1 (agg_run rfl) rfl (by exact H.ldL 1 rfl _ rfl)) ?_
  refine OPS.val rfl rfl rfl (Ev.add rfl rfl (by unfold fits; omega)) ?_
  refine OPS.val rfl rfl rfl ((by exact Ev.nilCheckP rfl)) ?_
  refine OPS.val rfl rfl rfl (Ev.fieldAddr (fld_run rfl) rfl) ?_
  refine OPS.nil_s ?_
  refine OPS.store 3 _ rfl rfl rfl (size_run rfl) rfl (cI rfl) rfl rfl H rfl (by simp) ?_
  clear H; intro w H; try simp only [List.set_cons_zero, List.set_cons_succ, putL, Nat.zero_add] at H
  refine OPS.nil ?_
  refine WP.seq ?_
  refine WP.rtail 19 mixed (by kernel_rfl) H ?_
  clear H; intro w hbw9 H
  refine OPS.val rfl rfl rfl (Ev.mvP rfl) ?_
  refine OPS.val rfl rfl rfl ((by exact Ev.nilCheckP rfl)) ?_
  refine OPS.val rfl rfl rfl (Ev.fieldAddr (fld_run rfl) rfl) ?_
  refine OPS.val rfl rfl rfl (Ev.load1 (agg_run rfl) rfl (by exact H.ldL 3 rfl _ rfl)) ?_
  refine OPS.val rfl rfl rfl (Ev.fieldAddr (fld_run rfl) rfl) ?_
  refine OPS.val rfl rfl rfl (Ev.load1 (agg_run rfl) rfl (by exact H.ldL 1 rfl _ rfl)) ?_
  refine OPS.val rfl rfl rfl (Ev.fieldAddr (fld_run rfl) rfl) ?_
  refine OPS.val rfl rfl rfl (Ev.load1 (agg_run rfl) rfl (by exact H.ldL 1 rfl _ rfl)) ?_
  refine OPS.val rfl rfl rfl (Ev.neg rfl (by unfold fits; omega)) ?_
  refine OPS.val rfl rfl rfl (Ev.max rfl rfl) ?_
  refine OPS.val rfl rfl rfl (Ev.mvP rfl) ?_
  refine OPS.val rfl rfl rfl ((by exact Ev.nilCheckP rfl)) ?_
  refine OPS.val rfl rfl rfl (Ev.fieldAddr (fld_run rfl) rfl) ?_
  refine OPS.val rfl rfl rfl (Ev.fieldAddr (fld_run rfl) rfl) ?_
  refine OPS.val rfl rfl rfl (Ev.load1 (agg_run rfl) rfl (by exact H.ldL 3 rfl _ rfl)) ?_
  refine OPS.val rfl rfl rfl (Ev.mul rfl rfl (by unfold fits; omega)) ?_
  refine OPS.val rfl rfl rfl (Ev.add rfl rfl (by unfold fits; omega)) ?_
  refine OPS.val rfl rfl rfl ((by exact Ev.nilCheckP rfl)) ?_
  refine OPS.val rfl rfl rfl (Ev.fieldAddr (fld_run rfl) rfl) ?_
  refine OPS.nil_s ?_
  refine OPS.store 3 _ rfl rfl rfl (size_run rfl) rfl (cI rfl) rfl rfl H rfl (by simp) ?_
  clear H; intro w H; try simp only [List.set_cons_zero, List.set_cons_succ, putL, Nat.zero_add] at H
  refine OPS.nil ?_
  refine WP.seq ?_
  have Hf := H
  replace H := H.drop (L' := [_]) ((((List.Sublist.refl _).cons _).cons _).cons _)
  refine WP.rheldC [74, 75, 76, 77, 78, 79, 80, 81, 82, 83] (fun _ w' => SH w0 S w' [⟨g8, 99, visCells (visitV d hd i ns[i] s)⟩, ⟨g6, 64, [I v, I ns[i].move]⟩, ⟨g4, 99, [I 0, I 0, I 0, I 0]⟩, ⟨g, 70, tourCells t (nightL m A B (some ⟨bn, on, none⟩) l.length tl ns.length ca cb cc hd) (visitT d hd ns[i] s)⟩]) mixed H ?_ ?_
  · clear H; intro w hbw10 H
    refine OPH.take 0 rfl rfl rfl rfl (by kernel_rfl) (by kernel_rfl) (by kernel_rfl) rfl (by exact H) (fun w H => Ev.mvP rfl) ?_
    refine OPH.take 1 rfl rfl rfl rfl (by kernel_rfl) (by kernel_rfl) (by kernel_rfl) rfl (by exact H) (fun w H => (by exact Ev.nilCheckP rfl)) ?_
    refine OPH.take 2 rfl rfl rfl rfl (by kernel_rfl) (by kernel_rfl) (by kernel_rfl) rfl (by exact H) (fun w H => Ev.fieldAddr (fld_run rfl) rfl) ?_
    refine OPH.take 3 rfl rfl rfl rfl (by kernel_rfl) (by kernel_rfl) (by kernel_rfl) rfl (by exact H) (fun w H => Ev.load1 (agg_run rfl) rfl (by exact H.ldL 0 rfl _ rfl)) ?_
    refine OPH.take 4 rfl rfl rfl rfl (by kernel_rfl) (by kernel_rfl) (by kernel_rfl) rfl (by exact H) (fun w H => Ev.mvP rfl) ?_
    refine OPH.take 5 rfl rfl rfl rfl (by kernel_rfl) (by kernel_rfl) (by kernel_rfl) rfl (by exact H) (fun w H => (by exact Ev.nilCheckP rfl)) ?_
    refine OPH.take 6 rfl rfl rfl rfl (by kernel_rfl) (by kernel_rfl) (by kernel_rfl) rfl (by exact H) (fun w H => Ev.fieldAddr (fld_run rfl) rfl) ?_
    refine OPH.take 7 rfl rfl rfl rfl (by kernel_rfl) (by kernel_rfl) (by kernel_rfl) rfl (by exact H) (fun w H => Ev.load1 (agg_run rfl) rfl (by exact H.ldL 0 rfl _ rfl)) ?_
    refine OPH.take 8 rfl rfl rfl rfl (by kernel_rfl) (by kernel_rfl) (by kernel_rfl) rfl (by exact H) (fun w H => Ev.fieldAddr (fld_run rfl) rfl) ?_
    refine OPH.all [9] (by kernel_rfl) (by simp) rfl ?_
    intro i hi; simp only [List.mem_cons, List.not_mem_nil, or_false] at hi
    rcases hi with rfl
    · refine ⟨_, rfl, ?_⟩
      try replace Hf := Hf.toBelow hbw10
      refine OPS.store 0 _ rfl rfl rfl (size_run rfl) rfl (cI rfl) rfl rfl Hf rfl (by simp) ?_
      clear H Hf; intro w Hf
      simp only [List.set_cons_zero, List.set_cons_succ, putL, Nat.zero_add] at Hf
      have H := Hf.drop (L' := [_]) ((((List.Sublist.refl _).cons _).cons _).cons _)
      refine OPS.nil ?_
      refine ⟨(by exact H), ?_⟩
      refine OPH.take 10 rfl rfl rfl rfl (by kernel_rfl) (by kernel_rfl) (by kernel_rfl) rfl (by exact H) (fun w H => Ev.fieldAddr (fld_run rfl) rfl) ?_
      refine OPH.all [11] (by kernel_rfl) (by simp) rfl ?_
      intro i hi; simp only [List.mem_cons, List.not_mem_nil, or_false] at hi
      rcases hi with rfl
      · refine ⟨_, rfl, ?_⟩
        try replace Hf := Hf.toBelow hbw10
        refine OPS.store 0 _ rfl rfl rfl (size_run rfl) rfl (cI rfl) rfl rfl Hf rfl (by simp) ?_
        clear H Hf; intro w Hf
        simp only [List.set_cons_zero, List.set_cons_succ, putL, Nat.zero_add] at Hf
        have H := Hf.drop (L' := [_]) ((((List.Sublist.refl _).cons _).cons _).cons _)
        refine OPS.nil ?_
        refine ⟨(by exact H), ?_⟩
        refine OPH.done (by kernel_rfl) ?_
        exact ⟨(by repeat (first | exact Agree.refl _ _ | exact Agree.mix _ _ _ | refine Agree.upd rfl ?_ | refine Agree.mix2 rfl ?_)), (by unfold visitT; rw [hvT]; exact Hf)⟩
  clear H
  rintro u w H
  refine WP.seq ?_
  refine WP.region ?_
  refine OPS.val rfl rfl rfl ((by exact Ev.loadO 0 H rfl (agg_run rfl) (size_run rfl) (by rfl) rfl)) ?_
  refine OPS.store 2 _ rfl rfl rfl (size_run rfl) rfl (cA rfl) rfl rfl H rfl (by simp) ?_
  clear H; intro w H; try simp only [List.set_cons_zero, List.set_cons_succ, putL, Nat.zero_add] at H
  refine OPS.val rfl rfl rfl (Ev.asI rfl) ?_
  refine OPS.nil ?_
  refine WP.ret ⟨[_, _], ⟨(by exact resCellA 2 H rfl (agg_run rfl) (size_run rfl) (by rfl) rfl), rfl, trivial⟩, ?_⟩
  exact ⟨rfl, fun _ => H.drop (L' := [_]) ((((List.Sublist.refl _).cons _).cons _).cons _), _, H⟩
def homeE (d hd : Int) (t : Truck) (s : TS) : Int := if d < 0 then 15 else if t.to_ < s.now + d + s.load * hd then 25 else 0
def homeT (d hd : Int) (t : Truck) (s : TS) : TS := ⟨t.depot.toNat, s.now + d + s.load * hd, s.load, s.driven + d⟩
set_option maxHeartbeats 1000000 in
theorem tourHome (g m : Nat) (A B C : Option Addr) (l : List Edg) (tl nl ca cb cc : Nat) (hd : Int) (t : Truck) (s : TS) (w0 : World) (hok : RoadOk m l) (hs : s.at_ < m) (hb : -100000000000 ≤ s.now ∧ s.now ≤ 100000000000 ∧ -100000000000 ≤ s.driven ∧ s.driven ≤ 100000000000 ∧ -100000 ≤ s.load ∧ s.load ≤ 100000)
    (hx : 0 ≤ t.depot ∧ t.depot < m) (hh : 0 ≤ hd ∧ hd ≤ 3600)
    (hz : EdgsAt w0 A l) (hA : l ≠ [] → Off A [g]) (H0 : SH w0 [g] w0 [⟨g, 70, tourCells t (nightL m A B C l.length tl nl ca cb cc hd) s⟩]) :
    Calls Try.prog 59 #[.pointer (some ⟨g, 0, none⟩)] w0 fun e w' => e = .returned (I (homeE (roadT m l s.at_ t.depot.toNat) hd t s)) ∧
      (homeE (roadT m l s.at_ t.depot.toNat) hd t s = 0 → SH w0 [g] w' [⟨g, 70, tourCells t (nightL m A B C l.length tl nl ca cb cc hd) (homeT (roadT m l s.at_ t.depot.toNat) hd t s)⟩]) ∧ ∃ L, SH w0 [g] w' L := by
  have H := H0
  obtain ⟨v, hv⟩ := Int.eq_ofNat_of_zero_le hx.1
  have hvm : v < m := by omega
  have hvT : t.depot.toNat = v := by omega
  rw [hvT]
  have hbd := roadT_bd hok hs hvm
  generalize hD : roadT m l s.at_ v = d at *
  have hmul : -360000000 ≤ s.load * hd ∧ s.load * hd ≤ 360000000 := by
    have h1 : s.load * hd ≤ 100000 * hd := Int.mul_le_mul_of_nonneg_right hb.2.2.2.2.2 hh.1
    have h2 : -100000 * hd ≤ s.load * hd := Int.mul_le_mul_of_nonneg_right hb.2.2.2.2.1 hh.1
    omega
  unfold tourCells truckCells nightL at H
  simp only [List.cons_append, List.nil_append] at H
  rw [hv] at H
  refine Calls.ofWP Try.func59 rfl Try.results59 Try.ntmps59 rfl ?_
  refine WP.seq ?_
  refine WP.region ?_
  refine OPS.val rfl rfl rfl (Ev.asI rfl) ?_
  refine OPS.nil ?_
  refine WP.seq ?_
  refine WP.seq ?_
  refine WP.region ?_
  refine OPS.val rfl rfl rfl (Ev.mvP rfl) ?_
  refine OPS.val rfl rfl rfl (Ev.mvP rfl) ?_
  refine OPS.val rfl rfl rfl ((by exact Ev.nilCheckP rfl)) ?_
  refine OPS.val rfl rfl rfl (Ev.fieldAddr (fld_run rfl) rfl) ?_
  refine OPS.val rfl rfl rfl (Ev.fieldAddr (fld_run rfl) rfl) ?_
  refine OPS.val rfl rfl rfl (Ev.load1 (agg_run rfl) rfl (by exact H.ldL 0 rfl _ rfl)) ?_
  refine OPS.call (d := some 10) rfl rfl rfl (EvC.func (fun_run rfl)) (tourDrive g m v A B C l tl nl ca cb cc hd t s w0 [g] hok hvm hs (by omega) hz hA H0) ?_
  rintro _ w ⟨rfl, Hg, Lx, Hx⟩
  refine ⟨_, rfl, ?_⟩
  rw [hD] at Hg
  replace H := Hx
  clear Hx
  rw [hD]
  refine OPS.val rfl rfl rfl (Ev.asI rfl) ?_
  refine OPS.nil ?_
  refine WP.seq ?_
  refine WP.region ?_
  refine OPS.val rfl rfl rfl (Ev.mvI rfl) ?_
  refine OPS.val rfl rfl rfl (Ev.neq rfl rfl) ?_
  refine OPS.nil ?_
  refine WP.cond rfl (fun hc2 => ?_) (fun hc2 => ?_)
  · have hdn : d < 0 := by
      rcases Int.lt_or_le d 0 with h | h
      · exact h
      · rw [driveE, if_neg (by omega)] at hc2; simp at hc2
    rw [driveE, if_pos hdn]
    clear Hg
    refine WP.seq ?_
    refine WP.region ?_
    refine OPS.val rfl rfl rfl (Ev.mvI rfl) ?_
    refine OPS.val rfl rfl rfl (Ev.asI rfl) ?_
    refine OPS.nil ?_
    refine WP.ret ⟨_, rfl, ?_⟩
    have he : homeE d hd t s = 15 := by rw [homeE, if_pos hdn]
    rw [he]
    exact ⟨rfl, fun h => absurd h (by decide), _, H⟩
  have hdp : 0 ≤ d := by
    rcases Int.lt_or_le d 0 with h | h
    · rw [driveE, if_pos h] at hc2; simp at hc2
    · exact h
  replace H := Hg hdp
  clear Hg
  unfold tourCells truckCells nightL driveS at H
  simp only [List.cons_append, List.nil_append] at H
  refine WP.skip ?_
  refine WP.seq ?_
  refine WP.rtail 17 mixed (by kernel_rfl) H ?_
  clear H; intro w hbw4 H
  refine OPS.val rfl rfl rfl (Ev.mvP rfl) ?_
  refine OPS.val rfl rfl rfl ((by exact Ev.nilCheckP rfl)) ?_
  refine OPS.val rfl rfl rfl (Ev.fieldAddr (fld_run rfl) rfl) ?_
  refine OPS.val rfl rfl rfl (Ev.load1 (agg_run rfl) rfl (by exact H.ldL 0 rfl _ rfl)) ?_
  refine OPS.val rfl rfl rfl (Ev.mvP rfl) ?_
  refine OPS.val rfl rfl rfl ((by exact Ev.nilCheckP rfl)) ?_
  refine OPS.val rfl rfl rfl (Ev.fieldAddr (fld_run rfl) rfl) ?_
  refine OPS.val rfl rfl rfl (Ev.load1 (agg_run rfl) rfl (by exact H.ldL 0 rfl _ rfl)) ?_
  refine OPS.val rfl rfl rfl (Ev.mvP rfl) ?_
  refine OPS.val rfl rfl rfl ((by exact Ev.nilCheckP rfl)) ?_
  refine OPS.val rfl rfl rfl (Ev.fieldAddr (fld_run rfl) rfl) ?_
  refine OPS.val rfl rfl rfl (Ev.fieldAddr (fld_run rfl) rfl) ?_
  refine OPS.val rfl rfl rfl (Ev.load1 (agg_run rfl) rfl (by exact H.ldL 0 rfl _ rfl)) ?_
  refine OPS.val rfl rfl rfl (Ev.mul rfl rfl (by unfold fits; omega)) ?_
  refine OPS.val rfl rfl rfl (Ev.add rfl rfl (by unfold fits; omega)) ?_
  refine OPS.val rfl rfl rfl ((by exact Ev.nilCheckP rfl)) ?_
  refine OPS.val rfl rfl rfl (Ev.fieldAddr (fld_run rfl) rfl) ?_
  refine OPS.nil_s ?_
  refine OPS.store 0 _ rfl rfl rfl (size_run rfl) rfl (cI rfl) rfl rfl H rfl (by simp) ?_
  clear H; intro w H; try simp only [List.set_cons_zero, List.set_cons_succ, putL, Nat.zero_add] at H
  refine OPS.nil ?_
  refine WP.seq ?_
  refine WP.seq ?_
  refine WP.rstill mixed (by kernel_rfl) H ?_
  clear H; intro w hbw5 H
  refine OPS.val rfl rfl rfl (Ev.mvP rfl) ?_
  refine OPS.val rfl rfl rfl ((by exact Ev.nilCheckP rfl)) ?_
  refine OPS.val rfl rfl rfl (Ev.fieldAddr (fld_run rfl) rfl) ?_
  refine OPS.val rfl rfl rfl (Ev.load1 (agg_run rfl) rfl (by exact H.ldL 0 rfl _ rfl)) ?_
  refine OPS.val rfl rfl rfl (Ev.mvP rfl) ?_
  refine OPS.val rfl rfl rfl ((by exact Ev.nilCheckP rfl)) ?_
  refine OPS.val rfl rfl rfl (Ev.fieldAddr (fld_run rfl) rfl) ?_
  refine OPS.val rfl rfl rfl (Ev.fieldAddr (fld_run rfl) rfl) ?_
  refine OPS.val rfl rfl rfl (Ev.fieldAddr (fld_run rfl) rfl) ?_
  refine OPS.val rfl rfl rfl (Ev.load1 (agg_run rfl) rfl (by exact H.ldL 0 rfl _ rfl)) ?_
  refine OPS.val rfl rfl rfl (Ev.gtr rfl rfl) ?_
  refine OPS.nil_s ?_
  refine WP.cond rfl (fun hc5 => ?_) (fun hc5 => ?_)
  · refine WP.seq ?_
    refine WP.region ?_
    refine OPS.val rfl rfl rfl (Ev.asI rfl) ?_
    refine OPS.nil ?_
    refine WP.ret ⟨_, rfl, ?_⟩
    have hlt : t.to_ < s.now + d + s.load * hd := by simpa using hc5
    have he : homeE d hd t s = 25 := by rw [homeE, if_neg (by omega), if_pos hlt]
    rw [he]
    exact ⟨rfl, fun h => absurd h (by decide), _, H⟩
  refine WP.skip ?_
  refine WP.seq ?_
  refine WP.region ?_
  refine OPS.val rfl rfl rfl (Ev.asI rfl) ?_
  refine OPS.nil ?_
  refine WP.ret ⟨_, rfl, ?_⟩
  have hlt : ¬ t.to_ < s.now + d + s.load * hd := by simpa using hc5
  have he : homeE d hd t s = 0 := by rw [homeE, if_neg (by omega), if_neg hlt]
  rw [he]
  exact ⟨rfl, fun _ => by unfold homeT; rw [hvT]; exact H, _, H⟩
end Go.Proofs.Ytfddebpeiilohaa
