/-
  Walk: the function that nearest hands to each.
-/
import Derived.Test.YtgjfjbphngamgaaFT8
import Derived.Test.YtgjfjbphngamgaaFQ1
set_option linter.all false
namespace Go.Proofs.Ytgjfjbphngamgaa.Flo
open Go Go.W Go.RowKit

/-- where nearest keeps its variables -/
structure NAdr where
  gx : Nat
  gdo : Nat
  gpo : Nat
  gst : Nat
  gdi : Nat
  gwa : Nat
  gS : Nat
  gI : Nat
  gD : Nat
  gq : Nat
/-- what nearest is at work on -/
structure NSt where
  sts : List Step
  dist : List Int
  h : List Ent
  p : Int
  A : Option Addr
  cap : Nat
  Lo : List Blk
def nVars (g : NAdr) (n x : Nat) (xd : Int) (Ap : Option Addr) (np capp : Nat) : List Blk :=
  [⟨g.gx, 146, [I x, I xd]⟩, ⟨g.gdo, 135, [.slice (some ⟨g.gD, 0, none⟩) n n]⟩, ⟨g.gpo, 31, [.slice Ap np capp]⟩, ⟨g.gst, 112, [.slice (some ⟨g.gS, 0, none⟩) n n]⟩, ⟨g.gdi, 31, [.slice (some ⟨g.gI, 0, none⟩) n n]⟩, ⟨g.gwa, 143, [.pointer (some ⟨g.gq, 0, none⟩)]⟩]
def nLv (g : NAdr) (n x : Nat) (xd : Int) (Ap : Option Addr) (np capp : Nat) (done : List Bool) (s : NSt) : List Blk :=
  nVars g n x xd Ap np capp ++ ([⟨g.gD, 4, done.map Bo⟩, ⟨g.gS, 116, s.sts.flatMap stepCells⟩, ⟨g.gI, 3, s.dist.map I⟩] ++ qLv g.gq s.A s.cap s.h s.p s.Lo)
/-- what a visit of the arc from a to b does -/
def nVisC (x : Nat) (xd : Int) (pots : List Int) (done : List Bool) (s : NSt) (a b : Nat) (cost : Int) : Bool :=
  (decide (a = x) && !done.getD b false) && ((!(s.sts.getD b default).known) || decide (xd + cost + pots.getD a 0 - pots.getD b 0 < s.dist.getD b 0))
def NVis (x : Nat) (xd : Int) (pots : List Int) (done : List Bool) (a b arc : Nat) (room cost : Int) (fwd : Bool) (s s' : NSt) : Prop :=
  if nVisC x xd pots done s a b cost = true then
    s'.sts = s.sts.set b ⟨a, arc, room, fwd, true, 0⟩ ∧ s'.dist = s.dist.set b (xd + cost + pots.getD a 0 - pots.getD b 0) ∧ s'.h.Perm (s.h ++ [⟨b, xd + cost + pots.getD a 0 - pots.getD b 0, s.p⟩]) ∧ s'.p = s.p + 1
  else s'.sts = s.sts ∧ s'.dist = s.dist ∧ s'.h = s.h ∧ s'.p = s.p
structure NStOk (n : Nat) (s : NSt) : Prop where
  slen : s.sts.length = n
  dlen : s.dist.length = n
  own : QOwn s.A s.cap s.h s.Lo
  heap : HeapOk entLt s.h

set_option maxHeartbeats 1000000 in
theorem nearVisit (g : NAdr) (n x a b arc : Nat) (xd room cost : Int) (fwd : Bool) (Ap : Option Addr) (capp : Nat) (pots : List Int) (done : List Bool) (s : NSt) (w0 : World) (S : List Nat) (hok : NStOk n s) (hpl : pots.length = n) (hdl : done.length = n)
    (ha : a < n) (hb : b < n) (hp : IntsAt w0 Ap pots) (hpo : ∀ i (h : i < pots.length), -1000000000000 ≤ pots[i] ∧ pots[i] ≤ 1000000000000) (hxd : -1000000000000 ≤ xd ∧ xd ≤ 1000000000000) (hco : -1000000000000 ≤ cost ∧ cost ≤ 1000000000000)
    (hl : s.h.length ≤ 1000000) (hpp : 0 ≤ s.p ∧ s.p ≤ 1000000000) (hoff : pots ≠ [] → Off Ap S) (H0 : SH w0 S w0 (nLv g n x xd Ap n capp done s)) :
    Calls Try.prog 82 #[I a, I b, I arc, I room, I cost, .bool fwd, .pointer (some ⟨g.gx, 0, none⟩), .pointer (some ⟨g.gdo, 0, none⟩), .pointer (some ⟨g.gpo, 0, none⟩), .pointer (some ⟨g.gst, 0, none⟩), .pointer (some ⟨g.gdi, 0, none⟩), .pointer (some ⟨g.gwa, 0, none⟩)] w0
      fun e w' => e = .returned (.tuple #[]) ∧ ∃ s', NVis x xd pots done a b arc room cost fwd s s' ∧ NStOk n s' ∧ SH w0 S w' (nLv g n x xd Ap n capp done s') := by
  have H := H0
  simp only [nLv, nVars, qLv, qCells, List.cons_append, List.nil_append] at H
  have hs1 : s.sts.getD b default = s.sts[b]'(by rw [hok.slen]; exact hb) := by simp [hok.slen, hb]
  have hd1 : s.dist.getD b 0 = s.dist[b]'(by rw [hok.dlen]; exact hb) := by simp [hok.dlen, hb]
  have hpa : pots.getD a 0 = pots[a]'(by omega) := by simp [hpl, ha]
  have hpb : pots.getD b 0 = pots[b]'(by omega) := by simp [hpl, hb]
  have hdb : done.getD b false = done[b]'(by omega) := by simp [hdl, hb]
  have ho1 := hpo a (by omega)
  have ho2 := hpo b (by omega)
  refine Calls.ofWP Try.func82 rfl Try.results82 Try.ntmps82 rfl ?_
  refine WP.seq ?_
  refine WP.seq ?_
  refine WP.region ?_
  obtain ⟨_, _, e1, hxd1⟩ := onesOwn H 6 rfl b (by omega)
  cases e1
  refine OPS.val rfl rfl rfl (Ev.mvI rfl) ?_
  refine OPS.val rfl rfl rfl (Ev.fieldAddr (fld_run rfl) rfl) ?_
  refine OPS.val rfl rfl rfl (Ev.load1 (agg_run rfl) rfl (by exact H.ldL 0 rfl _ rfl)) ?_
  refine OPS.val rfl rfl rfl (Ev.neq rfl rfl) ?_
  refine OPS.val rfl rfl rfl (Ev.mvB rfl) ?_
  refine OPS.gval rfl rfl rfl rfl rfl (fun hg => Ev.load1 (agg_run rfl) (by rfl) (by exact H.ldL 1 rfl _ rfl)) ?_
  refine OPS.gval rfl rfl rfl rfl rfl (fun hg => Ev.mvI (by rfl)) ?_
  refine OPS.gval rfl rfl rfl rfl rfl (fun hg => (by exact Ev.indexAddr1 (el_run rfl) (size_run rfl) (by exact gvE hg rfl) (by exact gvE hg rfl) rfl (by omega))) ?_
  refine OPS.gval rfl rfl rfl rfl rfl (fun hg => Ev.load1 (agg_run rfl) (by exact gvE hg rfl) (by assumption)) ?_
  refine OPS.val rfl rfl rfl ((by exact Ev.pickOr rfl rfl rfl)) ?_
  refine OPS.nil ?_
  refine WP.cond rfl (fun hc0 => ?_) (fun hc0 => ?_)
  · refine WP.ret ⟨_, rfl, ?_⟩
    have hcc : nVisC x xd pots done s a b cost = false := by
      unfold nVisC
      rw [hdb]
      have h2 : (decide (a = x) && !done[b]) = false := by
        by_cases q : a = x
        · subst q; simpa using hc0
        · simp [q]
      rw [h2]; rfl
    exact ⟨rfl, s, by unfold NVis; rw [if_neg (by rw [hcc]; simp)]; exact ⟨rfl, rfl, rfl, rfl⟩, hok, H⟩
  have hax : a = x := by
    by_cases q : a = x
    · exact q
    · exfalso; have q2 : ¬ ((a : Int) = x) := by omega
      simp [q2] at hc0
  subst hax
  have hdf : done[b] = false := by simpa using hc0
  obtain ⟨bp, op, rfl, hpa1⟩ := hp a (by omega)
  obtain ⟨_, _, e1, hpb1⟩ := hp b (by omega)
  cases e1
  have hbS : bp ∉ S := hoff (List.ne_nil_of_length_pos (by omega)) bp op rfl
  refine WP.skip ?_
  refine WP.seq ?_
  refine WP.rstill mixed (by kernel_rfl) H ?_
  clear H; intro w hbw1 H
  refine OPS.val rfl rfl rfl (Ev.fieldAddr (fld_run rfl) rfl) ?_
  refine OPS.val rfl rfl rfl (Ev.load1 (agg_run rfl) rfl (by exact H.ldL 0 rfl _ rfl)) ?_
  refine OPS.val rfl rfl rfl (Ev.mvI rfl) ?_
  refine OPS.val rfl rfl rfl (Ev.add rfl rfl (by unfold fits; omega)) ?_
  refine OPS.val rfl rfl rfl (Ev.load1 (agg_run rfl) rfl (by exact H.ldL 2 rfl _ rfl)) ?_
  refine OPS.val rfl rfl rfl (Ev.mvI rfl) ?_
  refine OPS.val rfl rfl rfl ((by exact Ev.indexAddr1 (el_run rfl) (size_run rfl) rfl rfl rfl (by omega))) ?_
  refine OPS.val rfl rfl rfl (Ev.load1 (agg_run rfl) rfl (by exact H.ldS (by assumption) (by assumption))) ?_
  refine OPS.val rfl rfl rfl (Ev.add rfl rfl (by unfold fits; omega)) ?_
  refine OPS.val rfl rfl rfl (Ev.load1 (agg_run rfl) rfl (by exact H.ldL 2 rfl _ rfl)) ?_
  refine OPS.val rfl rfl rfl (Ev.mvI rfl) ?_
  refine OPS.val rfl rfl rfl ((by exact Ev.indexAddr1 (el_run rfl) (size_run rfl) rfl rfl rfl (by omega))) ?_
  refine OPS.val rfl rfl rfl (Ev.load1 (agg_run rfl) rfl (by exact H.ldS (by assumption) (by assumption))) ?_
  refine OPS.val rfl rfl rfl (Ev.sub rfl rfl (by unfold fits; omega)) ?_
  refine OPS.val rfl rfl rfl (Ev.asI rfl) ?_
  refine OPS.nil_s ?_
  refine WP.seq ?_
  refine WP.region ?_
  obtain ⟨_, _, e1, a0, a1, a2, a3, a4, a5, _⟩ := rowsOwn' stepCells_len H 7 rfl b (by rw [hok.slen]; exact hb)
  cases e1
  obtain ⟨_, _, e1, hdd⟩ := onesOwn H 8 rfl b (by rw [hok.dlen]; exact hb)
  cases e1
  refine OPS.val rfl rfl rfl (Ev.load1 (agg_run rfl) rfl (by exact H.ldL 3 rfl _ rfl)) ?_
  refine OPS.val rfl rfl rfl (Ev.mvI rfl) ?_
  refine OPS.val rfl rfl rfl ((by exact Ev.indexAddr (el_run rfl) (size_run rfl) rfl rfl rfl (by omega))) ?_
  refine OPS.val rfl rfl rfl (Ev.fieldAddr (fld_run rfl) rfl) ?_
  refine OPS.val rfl rfl rfl (Ev.load1 (agg_run rfl) rfl (by assumption)) ?_
  refine OPS.val rfl rfl rfl (Ev.not rfl) ?_
  refine OPS.val rfl rfl rfl (Ev.mvB rfl) ?_
  refine OPS.gval rfl rfl rfl rfl rfl (fun hg => Ev.mvI (by rfl)) ?_
  refine OPS.gval rfl rfl rfl rfl rfl (fun hg => Ev.load1 (agg_run rfl) (by rfl) (by exact H.ldL 4 rfl _ rfl)) ?_
  refine OPS.gval rfl rfl rfl rfl rfl (fun hg => Ev.mvI (by rfl)) ?_
  refine OPS.gval rfl rfl rfl rfl rfl (fun hg => (by exact Ev.indexAddr1 (el_run rfl) (size_run rfl) (by exact gvE hg rfl) (by exact gvE hg rfl) rfl (by omega))) ?_
  refine OPS.gval rfl rfl rfl rfl rfl (fun hg => Ev.load1 (agg_run rfl) (by exact gvE hg rfl) (by assumption)) ?_
  refine OPS.gval rfl rfl rfl rfl rfl (fun hg => Ev.lss (by exact gvE hg rfl) (by exact gvE hg rfl)) ?_
  refine OPS.val rfl rfl rfl ((by exact Ev.pickOr rfl rfl rfl)) ?_
  refine OPS.nil ?_
  refine WP.cond rfl (fun hc2 => ?_) (fun hc2 => ?_)
  · have hcc : nVisC a xd pots done s a b cost = true := by
      unfold nVisC
      rw [hdb, hs1, hd1, hdf, hpa, hpb]
      simpa using hc2
    refine WP.seq ?_
    have Hf := H
    replace H := H.reidx (L' := nVars g n a xd (some ⟨bp, op, none⟩) n capp) [0, 1, 2, 3, 4, 5] (by decide) rfl
    unfold nVars at H
    have hpu1 : putL (s.sts.flatMap stepCells) (0 + b * 6) (stepCells ⟨a, arc, room, fwd, true, 0⟩) = (s.sts.set b ⟨a, arc, room, fwd, true, 0⟩).flatMap stepCells := by rw [Nat.zero_add]; exact putL_rows stepCells_len s.sts b _ (by rw [hok.slen]; exact hb)
    have hpu2 : putL (s.dist.map I) (0 + b) [I (xd + cost + pots[a] - pots[b])] = (s.dist.set b (xd + cost + pots[a] - pots[b])).map I := by rw [Nat.zero_add]; exact putL_ones s.dist b _
    refine WP.rheldC [57, 58, 59, 60, 61, 62, 63, 64, 65, 66, 67, 68] (fun _ w' => SH w0 S w' (nLv g n a xd (some ⟨bp, op, none⟩) n capp done ⟨s.sts.set b ⟨a, arc, room, fwd, true, 0⟩, s.dist.set b (xd + cost + pots[a] - pots[b]), s.h, s.p, s.A, s.cap, s.Lo⟩)) mixed H ?_ ?_
    · clear H; intro w hbw3 H
      refine OPH.take 0 rfl rfl rfl rfl (by kernel_rfl) (by kernel_rfl) (by kernel_rfl) rfl (by exact H) (fun w H => Ev.load1 (agg_run rfl) rfl (by exact H.ldL 3 rfl _ rfl)) ?_
      refine OPH.take 1 rfl rfl rfl rfl (by kernel_rfl) (by kernel_rfl) (by kernel_rfl) rfl (by exact H) (fun w H => Ev.mvI rfl) ?_
      refine OPH.take 2 rfl rfl rfl rfl (by kernel_rfl) (by kernel_rfl) (by kernel_rfl) rfl (by exact H) (fun w H => Ev.load1 (agg_run rfl) rfl (by exact H.ldL 4 rfl _ rfl)) ?_
      refine OPH.take 3 rfl rfl rfl rfl (by kernel_rfl) (by kernel_rfl) (by kernel_rfl) rfl (by exact H) (fun w H => Ev.mvI rfl) ?_
      refine OPH.take 4 rfl rfl rfl rfl (by kernel_rfl) (by kernel_rfl) (by kernel_rfl) rfl (by exact H) (fun w H => Ev.mvI rfl) ?_
      refine OPH.take 5 rfl rfl rfl rfl (by kernel_rfl) (by kernel_rfl) (by kernel_rfl) rfl (by exact H) (fun w H => Ev.mvI rfl) ?_
      refine OPH.take 6 rfl rfl rfl rfl (by kernel_rfl) (by kernel_rfl) (by kernel_rfl) rfl (by exact H) (fun w H => Ev.mvI rfl) ?_
      refine OPH.take 7 rfl rfl rfl rfl (by kernel_rfl) (by kernel_rfl) (by kernel_rfl) rfl (by exact H) (fun w H => Ev.mvB rfl) ?_
      refine OPH.take 8 rfl rfl rfl rfl (by kernel_rfl) (by kernel_rfl) (by kernel_rfl) rfl (by exact H) (fun w H => Ev.build (bld_116_0_1_2_3_4 rfl rfl rfl rfl rfl)) ?_
      refine OPH.take 9 rfl rfl rfl rfl (by kernel_rfl) (by kernel_rfl) (by kernel_rfl) rfl (by exact H) (fun w H => Ev.mvI rfl) ?_
      refine OPH.take 10 rfl rfl rfl rfl (by kernel_rfl) (by kernel_rfl) (by kernel_rfl) rfl (by exact H) (fun w H => (by exact Ev.indexAddr (el_run rfl) (size_run rfl) rfl rfl rfl (by omega))) ?_
      refine OPH.all [11] (by kernel_rfl) (by simp) rfl ?_
      intro i hi; simp only [List.mem_cons, List.not_mem_nil, or_false] at hi
      rcases hi with rfl
      · refine ⟨_, rfl, ?_⟩
        try replace Hf := Hf.toBelow hbw3
        refine OPS.store (vs := stepCells ⟨a, arc, room, fwd, true, 0⟩) 7 _ rfl rfl rfl (size_run rfl) rfl (cA rfl) rfl rfl Hf rfl (by simp only [rows_length stepCells_len, hok.slen]; omega) ?_
        clear H Hf; intro w Hf
        simp only [List.set_cons_zero, List.set_cons_succ] at Hf
        rw [hpu1] at Hf
        have H := Hf.reidx (L' := nVars g n a xd (some ⟨bp, op, none⟩) n capp) [0, 1, 2, 3, 4, 5] (by decide) rfl
        unfold nVars at H
        refine OPS.nil ?_
        refine ⟨(by exact H), ?_⟩
        refine OPH.take 12 rfl rfl rfl rfl (by kernel_rfl) (by kernel_rfl) (by kernel_rfl) rfl (by exact H) (fun w H => (by exact Ev.indexAddr1 (el_run rfl) (size_run rfl) rfl rfl rfl (by omega))) ?_
        refine OPH.all [13] (by kernel_rfl) (by simp) rfl ?_
        intro i hi; simp only [List.mem_cons, List.not_mem_nil, or_false] at hi
        rcases hi with rfl
        · refine ⟨_, rfl, ?_⟩
          try replace Hf := Hf.toBelow hbw3
          refine OPS.store (vs := [I (xd + cost + pots[a] - pots[b])]) 8 _ rfl rfl rfl (size_run rfl) rfl (cI rfl) rfl rfl Hf rfl (by simp only [List.length_map, hok.dlen]; omega) ?_
          clear H Hf; intro w Hf
          simp only [List.set_cons_zero, List.set_cons_succ] at Hf
          rw [hpu2] at Hf
          have H := Hf.reidx (L' := nVars g n a xd (some ⟨bp, op, none⟩) n capp) [0, 1, 2, 3, 4, 5] (by decide) rfl
          unfold nVars at H
          refine OPS.nil ?_
          refine ⟨(by exact H), ?_⟩
          refine OPH.done (by kernel_rfl) ?_
          exact ⟨(by repeat (first | exact Agree.refl _ _ | exact Agree.mix _ _ _ | refine Agree.upd rfl ?_ | refine Agree.mix2 rfl ?_)), Hf⟩
    clear H
    rintro u w H
    refine WP.region ?_
    refine OPS.val rfl rfl rfl (Ev.load1 (agg_run rfl) rfl (by exact H.ldL 5 rfl _ rfl)) ?_
    refine OPS.val rfl rfl rfl (Ev.mvI rfl) ?_
    refine OPS.val rfl rfl rfl (Ev.mvI rfl) ?_
    refine OPS.val rfl rfl rfl (Ev.build (bld_146_0_1 rfl rfl)) ?_
    refine OPS.call (d := some 73) rfl rfl rfl (EvC.func (fun_run rfl)) (qPush g.gq s.cap s.A s.p _ _ s.h s.Lo w (qLv g.gq s.A s.cap s.h s.p s.Lo |>.map (·.g)) hok.own hok.heap hl hpp (H.restart ((List.sublist_append_right _ _).trans (List.sublist_append_right _ _)))) ?_
    rintro _ w ⟨rfl, A', cap', h', Lo', hpm, hh', hO', H2⟩
    refine ⟨_, rfl, ?_⟩
    replace H := SH.call (Lv := qLv g.gq s.A s.cap s.h s.p s.Lo) (L1 := nVars g n a xd (some ⟨bp, op, none⟩) n capp ++ [⟨g.gD, 4, done.map Bo⟩, ⟨g.gS, 116, (s.sts.set b ⟨a, arc, room, fwd, true, 0⟩).flatMap stepCells⟩, ⟨g.gI, 3, (s.dist.set b (xd + cost + pots[a] - pots[b])).map I⟩]) (by rw [List.append_assoc]; exact H) H2
    rw [List.append_assoc] at H
    have hres : ∃ s', NVis a xd pots done a b arc room cost fwd s s' ∧ NStOk n s' ∧ SH w0 S w (nLv g n a xd (some ⟨bp, op, none⟩) n capp done s') := by
      refine ⟨⟨s.sts.set b ⟨a, arc, room, fwd, true, 0⟩, s.dist.set b (xd + cost + pots[a] - pots[b]), h', s.p + 1, A', cap', Lo'⟩, ?_, ⟨by simp [hok.slen], by simp [hok.dlen], hO', hh'⟩, H⟩
      unfold NVis
      rw [if_pos hcc, hpa, hpb]
      exact ⟨rfl, rfl, hpm, rfl⟩
    refine OPS.nil ?_
    refine ⟨_, rfl, ?_⟩
    exact ⟨rfl, hres⟩
  have hcc : nVisC a xd pots done s a b cost = false := by
    unfold nVisC
    rw [hdb, hs1, hd1, hdf, hpa, hpb]
    simpa using hc2
  have hres : ∃ s', NVis a xd pots done a b arc room cost fwd s s' ∧ NStOk n s' ∧ SH w0 S w (nLv g n a xd (some ⟨bp, op, none⟩) n capp done s') := ⟨s, by unfold NVis; rw [if_neg (by rw [hcc]; simp)]; exact ⟨rfl, rfl, rfl, rfl⟩, hok, H⟩
  refine WP.skip ?_
  refine ⟨_, rfl, ?_⟩
  exact ⟨rfl, hres⟩
end Go.Proofs.Ytgjfjbphngamgaa.Flo
