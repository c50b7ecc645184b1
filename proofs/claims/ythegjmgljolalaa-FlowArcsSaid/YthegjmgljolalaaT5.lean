/-
  Walks: the function that reach hands to each; reach.
-/
import Derived.Test.YthegjmgljolalaaT4
set_option linter.all false
namespace Go.Proofs.Ythegjmgljolalaa
open Go Go.W Go.RowKit

structure Step where
  from_ : Int
  arc : Int
  room : Int
  fwd : Bool
  known : Bool
  depth : Int
instance : Inhabited Step := ⟨⟨0, 0, 0, false, false, 0⟩⟩
def stepCells (s : Step) : List Value := [I s.from_, I s.arc, I s.room, Bo s.fwd, Bo s.known, I s.depth]
theorem stepCells_len (s : Step) : (stepCells s).length = 6 := rfl
abbrev RSt := List Step × Bool
def visC (d : Int) (s : RSt) (a b : Nat) : Bool := (((s.1.getD a default).known && decide ((s.1.getD a default).depth = d)) && !(s.1.getD b default).known) && decide (b < s.1.length)
def visR (d : Int) : VisF RSt := fun s a b arc room _ fwd =>
  if visC d s a.toNat b.toNat = true then (s.1.set b.toNat ⟨a, arc, room, fwd, true, d + 1⟩, true) else s
def reachLv (gs gd gg ga n : Nat) (d : Int) (s : RSt) : List Blk := [⟨gs, 57, [.slice (some ⟨ga, 0, none⟩) n n]⟩, ⟨gd, 3, [I d]⟩, ⟨gg, 4, [Bo s.2]⟩, ⟨ga, 60, s.1.flatMap stepCells⟩]

set_option maxHeartbeats 1000000 in
theorem reachVisit (gs gd gg ga n ai bi : Nat) (d room cost : Int) (arc : Nat) (fwd : Bool) (s : RSt) (w0 : World) (hn : s.1.length = n) (ha : ai < n) (hb : bi < n) (hd : 0 ≤ d) (hd2 : d ≤ 1000000)
    (H0 : SH w0 [gs, gd, gg, ga] w0 (reachLv gs gd gg ga n d s)) :
    Calls Try.prog 41 #[I ai, I bi, I arc, I room, I cost, .bool fwd, .pointer (some ⟨gs, 0, none⟩), .pointer (some ⟨gd, 0, none⟩), .pointer (some ⟨gg, 0, none⟩)] w0
      fun e w' => e = .returned (.tuple #[]) ∧ SH w0 [gs, gd, gg, ga] w' (reachLv gs gd gg ga n d (visR d s ai bi arc room cost fwd)) := by
  have H := H0
  unfold reachLv at H
  have hga : s.1.getD ai default = s.1[ai] := by simp [hn, ha]
  have hgb : s.1.getD bi default = s.1[bi] := by simp [hn, hb]
  refine Calls.ofWP Try.func41 rfl Try.results41 Try.ntmps41 rfl ?_
  refine WP.seq ?_
  refine WP.rstill mixed (by kernel_rfl) H ?_
  clear H; intro w hbw0 H
  have hrow := rowsOwn' stepCells_len H 3 rfl
  obtain ⟨_, _, e1, a0, a1, a2, a3, a4, a5, _⟩ := hrow ai (by omega)
  cases e1
  obtain ⟨_, _, e1, b0, b1, b2, b3, b4, b5, _⟩ := hrow bi (by omega)
  cases e1
  refine OPS.val rfl rfl rfl (Ev.load1 (agg_run rfl) rfl (by exact H.ldL 0 rfl _ rfl)) ?_
  refine OPS.val rfl rfl rfl (Ev.mvI rfl) ?_
  refine OPS.val rfl rfl rfl ((by exact Ev.indexAddr (el_run rfl) (size_run rfl) rfl rfl rfl (by omega))) ?_
  refine OPS.val rfl rfl rfl (Ev.fieldAddr (fld_run rfl) rfl) ?_
  refine OPS.val rfl rfl rfl (Ev.load1 (agg_run rfl) rfl (by assumption)) ?_
  refine OPS.val rfl rfl rfl (Ev.mvB rfl) ?_
  refine OPS.gval rfl rfl rfl rfl rfl (fun hg => Ev.load1 (agg_run rfl) (by rfl) (by exact H.ldL 0 rfl _ rfl)) ?_
  refine OPS.gval rfl rfl rfl rfl rfl (fun hg => Ev.mvI (by rfl)) ?_
  refine OPS.gval rfl rfl rfl rfl rfl (fun hg => (by exact Ev.indexAddr (el_run rfl) (size_run rfl) (by exact gvE hg rfl) (by exact gvE hg rfl) rfl (by omega))) ?_
  refine OPS.gval rfl rfl rfl rfl rfl (fun hg => Ev.fieldAddr (fld_run rfl) (by exact gvE hg rfl)) ?_
  refine OPS.gval rfl rfl rfl rfl rfl (fun hg => Ev.load1 (agg_run rfl) (by exact gvE hg rfl) (by assumption)) ?_
  refine OPS.gval rfl rfl rfl rfl rfl (fun hg => Ev.load1 (agg_run rfl) (by rfl) (by exact H.ldL 1 rfl _ rfl)) ?_
  refine OPS.gval rfl rfl rfl rfl rfl (fun hg => Ev.eql (by exact gvE hg rfl) (by exact gvE hg rfl)) ?_
  refine OPS.val rfl rfl rfl ((by exact Ev.pickAnd rfl rfl rfl)) ?_
  refine OPS.val rfl rfl rfl (Ev.mvB rfl) ?_
  refine OPS.gval rfl rfl rfl rfl rfl (fun hg => Ev.load1 (agg_run rfl) (by rfl) (by exact H.ldL 0 rfl _ rfl)) ?_
  refine OPS.gval rfl rfl rfl rfl rfl (fun hg => Ev.mvI (by rfl)) ?_
  refine OPS.gval rfl rfl rfl rfl rfl (fun hg => (by exact Ev.indexAddr (el_run rfl) (size_run rfl) (by exact gvE hg rfl) (by exact gvE hg rfl) rfl (by omega))) ?_
  refine OPS.gval rfl rfl rfl rfl rfl (fun hg => Ev.fieldAddr (fld_run rfl) (by exact gvE hg rfl)) ?_
  refine OPS.gval rfl rfl rfl rfl rfl (fun hg => Ev.load1 (agg_run rfl) (by exact gvE hg rfl) (by assumption)) ?_
  refine OPS.gval rfl rfl rfl rfl rfl (fun hg => Ev.not (by exact gvE hg rfl)) ?_
  refine OPS.val rfl rfl rfl ((by exact Ev.pickAnd rfl rfl rfl)) ?_
  refine OPS.nil_s ?_
  refine WP.cond rfl (fun hc0 => ?_) (fun hc0 => ?_)
  · have hc : visC d s ai bi = true := by rw [visC, hga, hgb, show decide (bi < s.1.length) = true by simp [hn, hb], Bool.and_true]; exact hc0
    have hv : visR d s ai bi arc room cost fwd = (s.1.set bi ⟨ai, arc, room, fwd, true, d + 1⟩, true) := by simp only [visR, Int.toNat_natCast, hc, if_true]
    refine WP.seq ?_
    refine WP.region ?_
    refine OPS.val rfl rfl rfl (Ev.load1 (agg_run rfl) rfl (by exact H.ldL 0 rfl _ rfl)) ?_
    refine OPS.val rfl rfl rfl (Ev.mvI rfl) ?_
    refine OPS.val rfl rfl rfl (Ev.mvI rfl) ?_
    refine OPS.val rfl rfl rfl (Ev.mvI rfl) ?_
    refine OPS.val rfl rfl rfl (Ev.mvI rfl) ?_
    refine OPS.val rfl rfl rfl (Ev.mvB rfl) ?_
    refine OPS.val rfl rfl rfl (Ev.load1 (agg_run rfl) rfl (by exact H.ldL 1 rfl _ rfl)) ?_
    refine OPS.val rfl rfl rfl (Ev.add rfl rfl (by unfold fits; omega)) ?_
    refine OPS.val rfl rfl rfl (Ev.build (bld_60_0_1_2_3_4_5 rfl rfl rfl rfl rfl rfl)) ?_
    refine OPS.val rfl rfl rfl ((by exact Ev.indexAddr (el_run rfl) (size_run rfl) rfl rfl rfl (by omega))) ?_
    refine OPS.store 3 _ rfl rfl rfl (size_run rfl) rfl rfl rfl rfl H rfl (by simp only [rows_length stepCells_len]; omega) ?_
    clear H; intro w H
    have hp := putL_rows stepCells_len s.1 bi ⟨ai, arc, room, fwd, true, d + 1⟩ (by omega)
    rw [Nat.zero_add] at H
    replace H : SH w0 [gs, gd, gg, ga] w [⟨gs, 57, [.slice (some ⟨ga, 0, none⟩) n n]⟩, ⟨gd, 3, [I d]⟩, ⟨gg, 4, [Bo s.2]⟩, ⟨ga, 60, putL (s.1.flatMap stepCells) (bi * 6) (stepCells ⟨ai, arc, room, fwd, true, d + 1⟩)⟩] := H
    rw [hp] at H
    refine OPS.nil ?_
    refine WP.region ?_
    refine OPS.store 2 _ rfl rfl rfl (size_run rfl) rfl (cB rfl) rfl rfl H rfl (by simp) ?_
    clear H; intro w H; try simp only [List.set_cons_zero, List.set_cons_succ, putL, Nat.zero_add] at H
    refine OPS.nil ?_
    refine ⟨_, rfl, ?_⟩
    exact ⟨rfl, by rw [hv]; exact H⟩
  have hc : visC d s ai bi = false := by rw [visC, hga, hgb, show decide (bi < s.1.length) = true by simp [hn, hb], Bool.and_true]; exact hc0
  have hv : visR d s ai bi arc room cost fwd = s := by simp only [visR, Int.toNat_natCast, hc]; rfl
  refine WP.skip ?_
  refine ⟨_, rfl, ?_⟩
  exact ⟨rfl, by rw [hv]; exact H⟩
end Go.Proofs.Ythegjmgljolalaa
