/-
  Walks: the priority queue of stops: less, before, swap, Len, Peek.
-/
import Derived.Test.YtfddebpeiilohaaOwn
import Derived.Test.YtfddebpeiilohaaPtr
import Derived.Test.YtfddebpeiilohaaHeap
set_option linter.all false
namespace Go.Proofs.Ytfddebpeiilohaa
open Go Go.W Go.RowKit

structure Ent where
  node : Int
  secs : Int
  edges : Int
  n : Int
instance : Inhabited Ent := ⟨⟨0, 0, 0, 0⟩⟩
def labCells (x : Ent) : List Value := [I x.node, I x.secs, I x.edges]
def entCells (x : Ent) : List Value := [I x.node, I x.secs, I x.edges, I x.n]
theorem entCells_len (x : Ent) : (entCells x).length = 4 := rfl
/-- the cells of the queue itself -/
def qCells (A : Option Addr) (n cap : Nat) (p : Int) : List Value := [.func (.func 99) #[] #[], .slice A n cap, I p]
def legLt (s e s2 e2 : Int) : Bool := decide (s < s2) || (decide (s = s2) && decide (e < e2))
def entLt (x y : Ent) : Bool := legLt x.secs x.edges y.secs y.edges || (!legLt y.secs y.edges x.secs x.edges && decide (x.n < y.n))

theorem legBefore (s e s2 e2 : Int) (w0 : World) :
    Calls Try.prog 100 #[.agg #[I s, I e], .agg #[I s2, I e2]] w0 fun r w' => r = .returned (.bool (legLt s e s2 e2)) ∧ Below w0.heap.size w0 w' := by
  have H := SH.refl w0
  refine Calls.ofWP Try.func100 rfl Try.results100 Try.ntmps100 rfl ?_
  refine WP.seq ?_
  refine WP.region ?_
  refine OPS.box rfl rfl rfl rfl (cA rfl) H ?_
  clear H; intro g2 w H
  refine OPS.box rfl rfl rfl rfl (cA rfl) H ?_
  clear H; intro g3 w H
  refine OPS.val rfl rfl rfl (Ev.asB rfl) ?_
  refine OPS.nil ?_
  refine WP.seq ?_
  refine WP.region ?_
  refine OPS.val rfl rfl rfl (Ev.fieldAddr (fld_run rfl) rfl) ?_
  refine OPS.val rfl rfl rfl (Ev.load1 (agg_run rfl) rfl (by exact H.ldL 1 rfl _ rfl)) ?_
  refine OPS.val rfl rfl rfl (Ev.fieldAddr (fld_run rfl) rfl) ?_
  refine OPS.val rfl rfl rfl (Ev.load1 (agg_run rfl) rfl (by exact H.ldL 0 rfl _ rfl)) ?_
  refine OPS.val rfl rfl rfl (Ev.lss rfl rfl) ?_
  refine OPS.val rfl rfl rfl (Ev.mvB rfl) ?_
  refine OPS.gval rfl rfl rfl rfl rfl (fun hg => Ev.fieldAddr (fld_run rfl) (by rfl)) ?_
  refine OPS.gval rfl rfl rfl rfl rfl (fun hg => Ev.load1 (agg_run rfl) (by exact gvE hg rfl) (by exact H.ldL 1 rfl _ rfl)) ?_
  refine OPS.gval rfl rfl rfl rfl rfl (fun hg => Ev.fieldAddr (fld_run rfl) (by rfl)) ?_
  refine OPS.gval rfl rfl rfl rfl rfl (fun hg => Ev.load1 (agg_run rfl) (by exact gvE hg rfl) (by exact H.ldL 0 rfl _ rfl)) ?_
  refine OPS.gval rfl rfl rfl rfl rfl (fun hg => Ev.eql (by exact gvE hg rfl) (by exact gvE hg rfl)) ?_
  refine OPS.gval rfl rfl rfl rfl rfl (fun hg => Ev.mvB (by exact gvE hg rfl)) ?_
  refine OPS.gvalN rfl rfl (GB.g rfl) rfl rfl (fun hg => Ev.fieldAddr (fld_run rfl) (by rfl)) ?_
  refine OPS.gvalN rfl rfl (GB.g rfl) rfl rfl (fun hg => Ev.load1 (agg_run rfl) (by exact gvE hg rfl) (by exact H.ldL 1 rfl _ rfl)) ?_
  refine OPS.gvalN rfl rfl (GB.g rfl) rfl rfl (fun hg => Ev.fieldAddr (fld_run rfl) (by rfl)) ?_
  refine OPS.gvalN rfl rfl (GB.g rfl) rfl rfl (fun hg => Ev.load1 (agg_run rfl) (by exact gvE hg rfl) (by exact H.ldL 0 rfl _ rfl)) ?_
  refine OPS.gvalN rfl rfl (GB.g rfl) rfl rfl (fun hg => Ev.lss (by exact gvE hg rfl) (by exact gvE hg rfl)) ?_
  refine OPS.gval rfl rfl rfl rfl rfl (fun hg => (by exact Ev.pickAnd2 (beqT hg) (gvE hg rfl) rfl rfl)) ?_
  refine OPS.val rfl rfl rfl ((by exact Ev.pickOr rfl rfl rfl)) ?_
  refine OPS.val rfl rfl rfl (Ev.asB rfl) ?_
  refine OPS.nil ?_
  refine WP.ret ⟨_, rfl, ?_⟩
  exact ⟨rfl, H.below⟩
theorem qLess (a s e b s2 e2 : Int) (w0 : World) :
    Calls Try.prog 99 #[.agg #[I a, I s, I e], .agg #[I b, I s2, I e2]] w0 fun r w' => r = .returned (.bool (legLt s e s2 e2)) ∧ Below w0.heap.size w0 w' := by
  have H := SH.refl w0
  refine Calls.ofWP Try.func99 rfl Try.results99 Try.ntmps99 rfl ?_
  refine WP.seq ?_
  refine WP.region ?_
  refine OPS.box rfl rfl rfl rfl (cA rfl) H ?_
  clear H; intro g2 w H
  refine OPS.box rfl rfl rfl rfl (cA rfl) H ?_
  clear H; intro g3 w H
  refine OPS.val rfl rfl rfl (Ev.asB rfl) ?_
  refine OPS.nil ?_
  refine WP.seq ?_
  refine WP.region ?_
  refine OPS.val rfl rfl rfl (Ev.fieldAddr (fld_run rfl) rfl) ?_
  refine OPS.val rfl rfl rfl ((by exact Ev.loadN [_, _] (agg_run rfl) (size_run rfl) rfl ⟨H.ldL 1 rfl _ rfl, H.ldL 1 rfl _ rfl, trivial⟩)) ?_
  refine OPS.val rfl rfl rfl (Ev.fieldAddr (fld_run rfl) rfl) ?_
  refine OPS.val rfl rfl rfl ((by exact Ev.loadN [_, _] (agg_run rfl) (size_run rfl) rfl ⟨H.ldL 0 rfl _ rfl, H.ldL 0 rfl _ rfl, trivial⟩)) ?_
  refine OPS.call (d := some 9) rfl rfl rfl (EvC.func (fun_run rfl)) (legBefore _ _ _ _ _) ?_
  rintro _ w ⟨rfl, hb⟩
  refine ⟨_, rfl, ?_⟩
  replace H := H.toBelow hb; clear hb
  refine OPS.val rfl rfl rfl (Ev.asB rfl) ?_
  refine OPS.nil ?_
  refine WP.ret ⟨_, rfl, ?_⟩
  exact ⟨rfl, H.below⟩

theorem qLen (gq n cap : Nat) (A : Option Addr) (p : Int) (w0 : World) (hq : cellsAt w0 gq 0 (qCells A n cap p)) :
    Calls Try.prog 107 #[.pointer (some ⟨gq, 0, none⟩)] w0 fun e w' => e = .returned (I n) ∧ Below w0.heap.size w0 w' := by
  have H := SH.refl w0
  obtain ⟨q0, q1, q2, _⟩ := hq
  refine Calls.ofWP Try.func107 rfl Try.results107 Try.ntmps107 rfl ?_
  refine WP.seq ?_
  refine WP.region ?_
  refine OPS.val rfl rfl rfl (Ev.asI rfl) ?_
  refine OPS.nil ?_
  refine WP.seq ?_
  refine WP.seq ?_
  refine WP.region ?_
  refine OPS.val rfl rfl rfl (Ev.mvP rfl) ?_
  refine OPS.val rfl rfl rfl (Ev.eqlPn Try.runUnderlying147 rfl rfl) ?_
  refine OPS.nil ?_
  refine WP.cond_f rfl ?_
  refine WP.skip ?_
  refine WP.seq ?_
  refine WP.region ?_
  refine OPS.val rfl rfl rfl (Ev.mvP rfl) ?_
  refine OPS.val rfl rfl rfl ((by exact Ev.nilCheckP rfl)) ?_
  refine OPS.val rfl rfl rfl (Ev.fieldAddr (fld_run rfl) rfl) ?_
  refine OPS.val rfl rfl rfl (Ev.load1 (agg_run rfl) rfl (by exact H.ld0 (by assumption))) ?_
  refine OPS.val rfl rfl rfl (Ev.len (el_run rfl) rfl) ?_
  refine OPS.val rfl rfl rfl (Ev.asI rfl) ?_
  refine OPS.nil ?_
  refine WP.ret ⟨_, rfl, ?_⟩
  exact ⟨rfl, H.below⟩

theorem qBefore (gq cap i k : Nat) (A : Option Addr) (p : Int) (h : List Ent) (w0 : World) (hq : cellsAt w0 gq 0 (qCells A h.length cap p)) (hr : RowsAt 4 entCells w0 A h) (hi : i < h.length) (hk : k < h.length) :
    Calls Try.prog 103 #[.pointer (some ⟨gq, 0, none⟩), I i, I k] w0 fun e w' => e = .returned (.bool (entLt h[i] h[k])) ∧ Below w0.heap.size w0 w' := by
  have H := SH.refl w0
  obtain ⟨q0, q1, q2, _⟩ := hq
  obtain ⟨b, o, rfl, hx⟩ := hr i hi
  obtain ⟨_, _, e1, hy⟩ := hr k hk
  cases e1
  refine Calls.ofWP Try.func103 rfl Try.results103 Try.ntmps103 rfl ?_
  refine WP.seq ?_
  refine WP.region ?_
  refine OPS.val rfl rfl rfl (Ev.asB rfl) ?_
  refine OPS.nil ?_
  refine WP.seq ?_
  refine WP.rheldC [7, 8, 9, 10, 11, 12, 13, 14, 15, 16, 17, 18, 19, 20, 21, 22] (fun u w' => ∃ g7 g8, u 7 = .pointer (some ⟨g7, 0, none⟩) ∧ u 8 = .pointer (some ⟨g8, 0, none⟩) ∧ SH w0 [] w' [⟨g8, 160, entCells h[k]⟩, ⟨g7, 160, entCells h[i]⟩]) mixed H ?_ ?_
  · clear H; intro w hbw1 H
    refine OPH.take 0 rfl rfl rfl rfl (by kernel_rfl) (by kernel_rfl) (by kernel_rfl) rfl (by exact H) (fun w H => Ev.mvP rfl) ?_
    refine OPH.take 1 rfl rfl rfl rfl (by kernel_rfl) (by kernel_rfl) (by kernel_rfl) rfl (by exact H) (fun w H => (by exact Ev.nilCheckP rfl)) ?_
    refine OPH.take 2 rfl rfl rfl rfl (by kernel_rfl) (by kernel_rfl) (by kernel_rfl) rfl (by exact H) (fun w H => Ev.fieldAddr (fld_run rfl) rfl) ?_
    refine OPH.take 3 rfl rfl rfl rfl (by kernel_rfl) (by kernel_rfl) (by kernel_rfl) rfl (by exact H) (fun w H => Ev.load1 (agg_run rfl) rfl (by exact H.ld0 (by assumption))) ?_
    refine OPH.take 4 rfl rfl rfl rfl (by kernel_rfl) (by kernel_rfl) (by kernel_rfl) rfl (by exact H) (fun w H => Ev.mvI rfl) ?_
    refine OPH.take 5 rfl rfl rfl rfl (by kernel_rfl) (by kernel_rfl) (by kernel_rfl) rfl (by exact H) (fun w H => (by exact Ev.indexAddr (el_run rfl) (size_run rfl) rfl rfl rfl (by omega))) ?_
    refine OPH.take 6 rfl rfl rfl rfl (by kernel_rfl) (by kernel_rfl) (by kernel_rfl) rfl (by exact H) (fun w H => (by (change Ev _ _ _ _ (Op.load 160 (Operand.tmp 14)) _; refine Ev.loadN (b := b) (o := o + i * 4) (entCells h[i]) ?_ ?_ ?_ (cellsAt_sh H hx); exact agg_run rfl; exact size_run rfl; rfl))) ?_
    refine OPH.take 7 rfl rfl rfl rfl (by kernel_rfl) (by kernel_rfl) (by kernel_rfl) rfl (by exact H) (fun w H => Ev.mvP rfl) ?_
    refine OPH.take 8 rfl rfl rfl rfl (by kernel_rfl) (by kernel_rfl) (by kernel_rfl) rfl (by exact H) (fun w H => (by exact Ev.nilCheckP rfl)) ?_
    refine OPH.take 9 rfl rfl rfl rfl (by kernel_rfl) (by kernel_rfl) (by kernel_rfl) rfl (by exact H) (fun w H => Ev.fieldAddr (fld_run rfl) rfl) ?_
    refine OPH.take 10 rfl rfl rfl rfl (by kernel_rfl) (by kernel_rfl) (by kernel_rfl) rfl (by exact H) (fun w H => Ev.load1 (agg_run rfl) rfl (by exact H.ld0 (by assumption))) ?_
    refine OPH.take 11 rfl rfl rfl rfl (by kernel_rfl) (by kernel_rfl) (by kernel_rfl) rfl (by exact H) (fun w H => Ev.mvI rfl) ?_
    refine OPH.take 12 rfl rfl rfl rfl (by kernel_rfl) (by kernel_rfl) (by kernel_rfl) rfl (by exact H) (fun w H => (by exact Ev.indexAddr (el_run rfl) (size_run rfl) rfl rfl rfl (by omega))) ?_
    refine OPH.take 13 rfl rfl rfl rfl (by kernel_rfl) (by kernel_rfl) (by kernel_rfl) rfl (by exact H) (fun w H => (by (change Ev _ _ _ _ (Op.load 160 (Operand.tmp 21)) _; refine Ev.loadN (b := b) (o := o + k * 4) (entCells h[k]) ?_ ?_ ?_ (cellsAt_sh H hy); exact agg_run rfl; exact size_run rfl; rfl))) ?_
    refine OPH.all [14, 15] (by kernel_rfl) (by simp) rfl ?_
    intro i hi; simp only [List.mem_cons, List.not_mem_nil, or_false] at hi
    rcases hi with rfl | rfl
    · refine ⟨_, rfl, ?_⟩
      refine OPS.alloc rfl rfl rfl rfl (zero_run rfl) rfl H ?_
      clear H; intro g7 w H
      refine OPS.nil ?_
      refine ⟨(by exact H.drop (List.sublist_cons_self _ _)), ?_⟩
      refine OPH.all [15] (by kernel_rfl) (by simp) rfl ?_
      intro i hi; simp only [List.mem_cons, List.not_mem_nil, or_false] at hi
      rcases hi with rfl
      · refine ⟨_, rfl, ?_⟩
        refine OPS.alloc rfl rfl rfl rfl (zero_run rfl) rfl H ?_
        clear H; intro g8 w H
        refine OPS.nil ?_
        refine ⟨(by exact H.drop ((List.sublist_cons_self _ _).trans (List.sublist_cons_self _ _))), ?_⟩
        refine OPH.all [16] (by kernel_rfl) (by simp) rfl ?_
        intro i hi; simp only [List.mem_cons, List.not_mem_nil, or_false] at hi
        rcases hi with rfl
        · refine ⟨_, rfl, ?_⟩
          refine OPS.store 1 _ rfl rfl rfl (size_run rfl) rfl (cA rfl) rfl rfl H rfl (by simp) ?_
          clear H; intro w H; try simp only [List.set_cons_zero, List.set_cons_succ, putL, Nat.zero_add] at H
          refine OPS.nil ?_
          refine ⟨(by exact H.drop ((List.sublist_cons_self _ _).trans (List.sublist_cons_self _ _))), ?_⟩
          refine OPH.all [17] (by kernel_rfl) (by simp) rfl ?_
          intro i hi; simp only [List.mem_cons, List.not_mem_nil, or_false] at hi
          rcases hi with rfl
          · refine ⟨_, rfl, ?_⟩
            refine OPS.store 0 _ rfl rfl rfl (size_run rfl) rfl (cA rfl) rfl rfl H rfl (by simp) ?_
            clear H; intro w H; try simp only [List.set_cons_zero, List.set_cons_succ, putL, Nat.zero_add] at H
            refine OPS.nil ?_
            refine ⟨(by exact H.drop ((List.sublist_cons_self _ _).trans (List.sublist_cons_self _ _))), ?_⟩
            refine OPH.done (by kernel_rfl) ?_
            exact ⟨(by repeat (first | exact Agree.refl _ _ | exact Agree.mix _ _ _ | refine Agree.upd rfl ?_ | refine Agree.mix2 rfl ?_)), g7, g8, rfl, rfl, H⟩
    · refine ⟨_, rfl, ?_⟩
      refine OPS.alloc rfl rfl rfl rfl (zero_run rfl) rfl H ?_
      clear H; intro g8 w H
      refine OPS.nil ?_
      refine ⟨(by exact H.drop (List.sublist_cons_self _ _)), ?_⟩
      refine OPH.all [14] (by kernel_rfl) (by simp) rfl ?_
      intro i hi; simp only [List.mem_cons, List.not_mem_nil, or_false] at hi
      rcases hi with rfl
      · refine ⟨_, rfl, ?_⟩
        refine OPS.alloc rfl rfl rfl rfl (zero_run rfl) rfl H ?_
        clear H; intro g7 w H
        refine OPS.nil ?_
        refine ⟨(by exact H.drop ((List.sublist_cons_self _ _).trans (List.sublist_cons_self _ _))), ?_⟩
        refine OPH.all [16] (by kernel_rfl) (by simp) rfl ?_
        intro i hi; simp only [List.mem_cons, List.not_mem_nil, or_false] at hi
        rcases hi with rfl
        · refine ⟨_, rfl, ?_⟩
          refine OPS.store 0 _ rfl rfl rfl (size_run rfl) rfl (cA rfl) rfl rfl H rfl (by simp) ?_
          clear H; intro w H; try simp only [List.set_cons_zero, List.set_cons_succ, putL, Nat.zero_add] at H
          refine OPS.nil ?_
          refine ⟨(by exact H.drop ((List.sublist_cons_self _ _).trans (List.sublist_cons_self _ _))), ?_⟩
          refine OPH.all [17] (by kernel_rfl) (by simp) rfl ?_
          intro i hi; simp only [List.mem_cons, List.not_mem_nil, or_false] at hi
          rcases hi with rfl
          · refine ⟨_, rfl, ?_⟩
            refine OPS.store 1 _ rfl rfl rfl (size_run rfl) rfl (cA rfl) rfl rfl H rfl (by simp) ?_
            clear H; intro w H; try simp only [List.set_cons_zero, List.set_cons_succ, putL, Nat.zero_add] at H
            refine OPS.nil ?_
            refine ⟨(by exact H.drop ((List.sublist_cons_self _ _).trans (List.sublist_cons_self _ _))), ?_⟩
            refine OPH.done (by kernel_rfl) ?_
            exact ⟨(by repeat (first | exact Agree.refl _ _ | exact Agree.mix _ _ _ | refine Agree.upd rfl ?_ | refine Agree.mix2 rfl ?_)), g7, g8, rfl, rfl, H.reidx [1, 0] (by decide) rfl⟩
  clear H
  rintro u w ⟨g7, g8, h7, h8, H⟩
  refine WP.know (t := 7) h7 (WP.know (t := 8) h8 ?_)
  refine WP.seq ?_
  refine WP.block ?_
  refine WP.seq ?_
  refine WP.rquiet mixed (by kernel_rfl) H ?_
  clear H; intro w hbw2 H
  refine OPS.val rfl rfl rfl (Ev.mvP rfl) ?_
  refine OPS.val rfl rfl rfl ((by exact Ev.nilCheckP rfl)) ?_
  refine OPS.val rfl rfl rfl (Ev.fieldAddr (fld_run rfl) rfl) ?_
  refine OPS.val rfl rfl rfl (Ev.load1 (agg_run rfl) rfl (by exact H.ld0 (by assumption))) ?_
  refine OPS.val rfl rfl rfl (Ev.fieldAddr (fld_run rfl) rfl) ?_
  refine OPS.val rfl rfl rfl ((by (change Ev _ _ _ _ (Op.load 150 (Operand.tmp 28)) _; exact Ev.loadN (labCells h[i]) (agg_run rfl) (size_run rfl) rfl (cellsAt_own H 1 rfl _ 0 (fun j hj => by match j with | 0 => rfl | 1 => rfl | 2 => rfl))))) ?_
  refine OPS.val rfl rfl rfl (Ev.fieldAddr (fld_run rfl) rfl) ?_
  refine OPS.val rfl rfl rfl ((by (change Ev _ _ _ _ (Op.load 150 (Operand.tmp 30)) _; exact Ev.loadN (labCells h[k]) (agg_run rfl) (size_run rfl) rfl (cellsAt_own H 0 rfl _ 0 (fun j hj => by match j with | 0 => rfl | 1 => rfl | 2 => rfl))))) ?_
  refine OPS.callq rfl rfl rfl (EvC.clos rfl (fun_run (by rfl))) (fun w2 hb2 => qLess _ _ _ _ _ _ _) ?_
  refine OPS.val rfl rfl rfl (Ev.asB rfl) ?_
  refine OPS.nilq H ?_
  clear H; intro w hbx2 H
  refine WP.cond rfl (fun hc2 => ?_) (fun hc2 => ?_)
  · refine WP.seq ?_
    refine WP.region ?_
    refine OPS.val rfl rfl rfl (Ev.asB rfl) ?_
    refine OPS.nil ?_
    refine WP.ret ⟨_, rfl, ?_⟩
    exact ⟨congrArg (fun b => Ending.returned (Bo b)) (show true = entLt h[i] h[k] from by simp only [entLt, hc2]; rfl), H.below⟩
  refine WP.seq ?_
  refine WP.rquiet mixed (by kernel_rfl) H ?_
  clear H; intro w hbw4 H
  refine OPS.val rfl rfl rfl (Ev.mvP rfl) ?_
  refine OPS.val rfl rfl rfl ((by exact Ev.nilCheckP rfl)) ?_
  refine OPS.val rfl rfl rfl (Ev.fieldAddr (fld_run rfl) rfl) ?_
  refine OPS.val rfl rfl rfl (Ev.load1 (agg_run rfl) rfl (by exact H.ld0 (by assumption))) ?_
  refine OPS.val rfl rfl rfl (Ev.fieldAddr (fld_run rfl) rfl) ?_
  refine OPS.val rfl rfl rfl ((by (change Ev _ _ _ _ (Op.load 150 (Operand.tmp 38)) _; exact Ev.loadN (labCells h[k]) (agg_run rfl) (size_run rfl) rfl (cellsAt_own H 0 rfl _ 0 (fun j hj => by match j with | 0 => rfl | 1 => rfl | 2 => rfl))))) ?_
  refine OPS.val rfl rfl rfl (Ev.fieldAddr (fld_run rfl) rfl) ?_
  refine OPS.val rfl rfl rfl ((by (change Ev _ _ _ _ (Op.load 150 (Operand.tmp 40)) _; exact Ev.loadN (labCells h[i]) (agg_run rfl) (size_run rfl) rfl (cellsAt_own H 1 rfl _ 0 (fun j hj => by match j with | 0 => rfl | 1 => rfl | 2 => rfl))))) ?_
  refine OPS.callq rfl rfl rfl (EvC.clos rfl (fun_run (by rfl))) (fun w2 hb2 => qLess _ _ _ _ _ _ _) ?_
  refine OPS.val rfl rfl rfl (Ev.asB rfl) ?_
  refine OPS.nilq H ?_
  clear H; intro w hbx4 H
  refine WP.cond rfl (fun hc4 => ?_) (fun hc4 => ?_)
  · refine WP.seq ?_
    refine WP.region ?_
    refine OPS.val rfl rfl rfl (Ev.asB rfl) ?_
    refine OPS.nil ?_
    refine WP.ret ⟨_, rfl, ?_⟩
    exact ⟨congrArg (fun b => Ending.returned (Bo b)) (show false = entLt h[i] h[k] from by simp only [entLt, hc2, hc4]; rfl), H.below⟩
  refine WP.skip ?_
  refine WP.seq ?_
  refine WP.region ?_
  refine OPS.val rfl rfl rfl (Ev.fieldAddr (fld_run rfl) rfl) ?_
  refine OPS.val rfl rfl rfl (Ev.load1 (agg_run rfl) rfl (by exact H.ldL 1 rfl _ rfl)) ?_
  refine OPS.val rfl rfl rfl (Ev.fieldAddr (fld_run rfl) rfl) ?_
  refine OPS.val rfl rfl rfl (Ev.load1 (agg_run rfl) rfl (by exact H.ldL 0 rfl _ rfl)) ?_
  refine OPS.val rfl rfl rfl (Ev.lss rfl rfl) ?_
  refine OPS.val rfl rfl rfl (Ev.asB rfl) ?_
  refine OPS.nil ?_
  refine WP.ret ⟨_, rfl, ?_⟩
  exact ⟨congrArg (fun b => Ending.returned (Bo b)) (show decide (h[i].n < h[k].n) = entLt h[i] h[k] from by simp only [entLt, hc2, hc4]; simp), H.below⟩
end Go.Proofs.Ytfddebpeiilohaa

/-
  Walk: the priority queue of stops: swap.
-/
set_option linter.all false
namespace Go.Proofs.Ytfddebpeiilohaa
open Go Go.W Go.RowKit

theorem putL_append : ∀ (vs a b : List Value) (k : Nat), k + vs.length ≤ a.length → putL (a ++ b) k vs = putL a k vs ++ b
  | [], _, _, _, _ => rfl
  | v :: vs, a, b, k, h => by
    simp only [List.length_cons] at h
    simp only [putL]
    rw [List.set_append_left _ _ (by omega)]
    exact putL_append vs (a.set k v) b (k + 1) (by simp; omega)
theorem putL_ents (h : List Ent) (sp : List Value) (k : Nat) (x : Ent) (hk : k < h.length) : putL (h.flatMap entCells ++ sp) (0 + k * 4) (entCells x) = (h.set k x).flatMap entCells ++ sp := by
  rw [Nat.zero_add, putL_append _ _ _ _ (by rw [rows_length entCells_len, entCells_len]; omega), putL_rows entCells_len h k x hk]
def qBlks (gq ga : Nat) (h : List Ent) (cap : Nat) (p : Int) (sp : List Value) : List Blk := [⟨gq, 158, qCells (some ⟨ga, 0, none⟩) h.length cap p⟩, ⟨ga, 160, h.flatMap entCells ++ sp⟩]

set_option maxHeartbeats 400000 in
theorem qSwap (gq ga cap i k : Nat) (p : Int) (h : List Ent) (sp : List Value) (w0 : World) (hi : i < h.length) (hk : k < h.length) (H0 : SH w0 [gq, ga] w0 (qBlks gq ga h cap p sp)) :
    Calls Try.prog 104 #[.pointer (some ⟨gq, 0, none⟩), I i, I k] w0 fun e w' => e = .returned (.tuple #[]) ∧ SH w0 [gq, ga] w' (qBlks gq ga (swapL h i k) cap p sp) := by
  have Hf := H0
  unfold qBlks qCells at Hf
  have H := Hf.reidx (L' := [⟨gq, 158, qCells (some ⟨ga, 0, none⟩) h.length cap p⟩]) [0] (by decide) rfl
  unfold qCells at H
  refine Calls.ofWP Try.func104 rfl Try.results104 Try.ntmps104 rfl ?_
  refine WP.rheldC [6, 7, 8, 9, 10, 11, 12, 13, 14, 15, 16, 17, 18, 19, 20, 21, 22, 23, 24, 25, 26, 27, 28, 29, 30, 31] (fun _ w' => SH w0 [gq, ga] w' (qBlks gq ga (swapL h i k) cap p sp)) mixed H ?_ ?_
  · clear H; intro w hbw0 H
    refine OPH.take 0 rfl rfl rfl rfl (by kernel_rfl) (by kernel_rfl) (by kernel_rfl) rfl (by exact H) (fun w H => Ev.mvP rfl) ?_
    refine OPH.take 1 rfl rfl rfl rfl (by kernel_rfl) (by kernel_rfl) (by kernel_rfl) rfl (by exact H) (fun w H => (by exact Ev.nilCheckP rfl)) ?_
    refine OPH.take 2 rfl rfl rfl rfl (by kernel_rfl) (by kernel_rfl) (by kernel_rfl) rfl (by exact H) (fun w H => Ev.fieldAddr (fld_run rfl) rfl) ?_
    refine OPH.take 3 rfl rfl rfl rfl (by kernel_rfl) (by kernel_rfl) (by kernel_rfl) rfl (by exact H) (fun w H => Ev.load1 (agg_run rfl) rfl (by exact H.ldL 0 rfl _ rfl)) ?_
    refine OPH.take 4 rfl rfl rfl rfl (by kernel_rfl) (by kernel_rfl) (by kernel_rfl) rfl (by exact H) (fun w H => Ev.mvI rfl) ?_
    refine OPH.take 5 rfl rfl rfl rfl (by kernel_rfl) (by kernel_rfl) (by kernel_rfl) rfl (by exact H) (fun w H => Ev.mvP rfl) ?_
    refine OPH.take 6 rfl rfl rfl rfl (by kernel_rfl) (by kernel_rfl) (by kernel_rfl) rfl (by exact H) (fun w H => (by exact Ev.nilCheckP rfl)) ?_
    refine OPH.take 7 rfl rfl rfl rfl (by kernel_rfl) (by kernel_rfl) (by kernel_rfl) rfl (by exact H) (fun w H => Ev.fieldAddr (fld_run rfl) rfl) ?_
    refine OPH.take 8 rfl rfl rfl rfl (by kernel_rfl) (by kernel_rfl) (by kernel_rfl) rfl (by exact H) (fun w H => Ev.load1 (agg_run rfl) rfl (by exact H.ldL 0 rfl _ rfl)) ?_
    refine OPH.take 9 rfl rfl rfl rfl (by kernel_rfl) (by kernel_rfl) (by kernel_rfl) rfl (by exact H) (fun w H => Ev.mvI rfl) ?_
    refine OPH.take 10 rfl rfl rfl rfl (by kernel_rfl) (by kernel_rfl) (by kernel_rfl) rfl (by exact H) (fun w H => Ev.mvP rfl) ?_
    refine OPH.take 11 rfl rfl rfl rfl (by kernel_rfl) (by kernel_rfl) (by kernel_rfl) rfl (by exact H) (fun w H => (by exact Ev.nilCheckP rfl)) ?_
    refine OPH.take 12 rfl rfl rfl rfl (by kernel_rfl) (by kernel_rfl) (by kernel_rfl) rfl (by exact H) (fun w H => Ev.fieldAddr (fld_run rfl) rfl) ?_
    refine OPH.take 13 rfl rfl rfl rfl (by kernel_rfl) (by kernel_rfl) (by kernel_rfl) rfl (by exact H) (fun w H => Ev.load1 (agg_run rfl) rfl (by exact H.ldL 0 rfl _ rfl)) ?_
    refine OPH.take 14 rfl rfl rfl rfl (by kernel_rfl) (by kernel_rfl) (by kernel_rfl) rfl (by exact H) (fun w H => Ev.mvI rfl) ?_
    refine OPH.take 15 rfl rfl rfl rfl (by kernel_rfl) (by kernel_rfl) (by kernel_rfl) rfl (by exact H) (fun w H => (by exact Ev.indexAddr (el_run rfl) (size_run rfl) rfl rfl rfl (by omega))) ?_
    refine OPH.take 17 rfl rfl rfl rfl (by kernel_rfl) (by kernel_rfl) (by kernel_rfl) rfl (by exact H) (fun w H => Ev.mvP rfl) ?_
    refine OPH.take 18 rfl rfl rfl rfl (by kernel_rfl) (by kernel_rfl) (by kernel_rfl) rfl (by exact H) (fun w H => (by exact Ev.nilCheckP rfl)) ?_
    refine OPH.take 19 rfl rfl rfl rfl (by kernel_rfl) (by kernel_rfl) (by kernel_rfl) rfl (by exact H) (fun w H => Ev.fieldAddr (fld_run rfl) rfl) ?_
    refine OPH.take 20 rfl rfl rfl rfl (by kernel_rfl) (by kernel_rfl) (by kernel_rfl) rfl (by exact H) (fun w H => Ev.load1 (agg_run rfl) rfl (by exact H.ldL 0 rfl _ rfl)) ?_
    refine OPH.take 21 rfl rfl rfl rfl (by kernel_rfl) (by kernel_rfl) (by kernel_rfl) rfl (by exact H) (fun w H => Ev.mvI rfl) ?_
    refine OPH.take 22 rfl rfl rfl rfl (by kernel_rfl) (by kernel_rfl) (by kernel_rfl) rfl (by exact H) (fun w H => (by exact Ev.indexAddr (el_run rfl) (size_run rfl) rfl rfl rfl (by omega))) ?_
    refine OPH.all [16, 23] (by kernel_rfl) (by simp) rfl ?_
    intro i hi; simp only [List.mem_cons, List.not_mem_nil, or_false] at hi
    rcases hi with rfl | rfl
    · refine ⟨_, rfl, ?_⟩
      try replace Hf := Hf.toBelow hbw0
      have hx := rowsOwn entCells_len Hf 1 rfl k hk
      obtain ⟨_, _, e1, hx⟩ := hx
      cases e1
      refine OPS.val rfl rfl rfl (by refine Ev.loadN (b := ga) (o := 0 + k * 4) (entCells h[k]) ?_ ?_ ?_ hx; exact agg_run rfl; exact size_run rfl; rfl) ?_
      refine OPS.nil ?_
      refine ⟨(by exact H), ?_⟩
      refine OPH.all [23] (by kernel_rfl) (by simp) rfl ?_
      intro i hi; simp only [List.mem_cons, List.not_mem_nil, or_false] at hi
      rcases hi with rfl
      · refine ⟨_, rfl, ?_⟩
        try replace Hf := Hf.toBelow hbw0
        have hx := rowsOwn entCells_len Hf 1 rfl i hi
        obtain ⟨_, _, e1, hx⟩ := hx
        cases e1
        refine OPS.val rfl rfl rfl (by refine Ev.loadN (b := ga) (o := 0 + i * 4) (entCells h[i]) ?_ ?_ ?_ hx; exact agg_run rfl; exact size_run rfl; rfl) ?_
        refine OPS.nil ?_
        refine ⟨(by exact H), ?_⟩
        refine OPH.take 24 rfl rfl rfl rfl (by kernel_rfl) (by kernel_rfl) (by kernel_rfl) rfl (by exact H) (fun w H => (by exact Ev.indexAddr (el_run rfl) (size_run rfl) rfl rfl rfl (by omega))) ?_
        refine OPH.all [25] (by kernel_rfl) (by simp) rfl ?_
        intro i hi; simp only [List.mem_cons, List.not_mem_nil, or_false] at hi
        rcases hi with rfl
        · refine ⟨_, rfl, ?_⟩
          refine OPS.store 1 _ rfl rfl rfl (size_run rfl) rfl (cA rfl) rfl rfl Hf rfl (by rw [List.length_append, rows_length entCells_len]; omega) ?_
          clear H Hf; intro w Hf
          replace Hf : SH w0 [gq, ga] w [⟨gq, 158, qCells (some ⟨ga, 0, none⟩) h.length cap p⟩, ⟨ga, 160, putL (h.flatMap entCells ++ sp) (0 + i * 4) (entCells h[k])⟩] := Hf
          rw [putL_ents h sp i _ hi] at Hf
          have H := Hf.reidx (L' := [⟨gq, 158, qCells (some ⟨ga, 0, none⟩) h.length cap p⟩]) [0] (by decide) rfl
          unfold qCells at H
          refine OPS.nil ?_
          refine ⟨(by exact H), ?_⟩
          refine OPH.take 26 rfl rfl rfl rfl (by kernel_rfl) (by kernel_rfl) (by kernel_rfl) rfl (by exact H) (fun w H => (by exact Ev.indexAddr (el_run rfl) (size_run rfl) rfl rfl rfl (by omega))) ?_
          refine OPH.all [27] (by kernel_rfl) (by simp) rfl ?_
          intro i hi; simp only [List.mem_cons, List.not_mem_nil, or_false] at hi
          rcases hi with rfl
          · refine ⟨_, rfl, ?_⟩
            refine OPS.store 1 _ rfl rfl rfl (size_run rfl) rfl (cA rfl) rfl rfl Hf rfl (by rw [List.length_append, rows_length entCells_len, List.length_set]; omega) ?_
            clear H Hf; intro w Hf
            replace Hf : SH w0 [gq, ga] w [⟨gq, 158, qCells (some ⟨ga, 0, none⟩) h.length cap p⟩, ⟨ga, 160, putL ((h.set i h[k]).flatMap entCells ++ sp) (0 + k * 4) (entCells h[i])⟩] := Hf
            rw [putL_ents _ sp k _ (by rw [List.length_set]; exact hk)] at Hf
            have H := Hf.reidx (L' := [⟨gq, 158, qCells (some ⟨ga, 0, none⟩) h.length cap p⟩]) [0] (by decide) rfl
            unfold qCells at H
            have hsw : swapL h i k = (h.set i h[k]).set k h[i] := by simp [swapL, hi, hk]
            refine OPS.nil ?_
            refine ⟨(by exact H), ?_⟩
            refine OPH.done (by kernel_rfl) ?_
            exact ⟨(by repeat (first | exact Agree.refl _ _ | exact Agree.mix _ _ _ | refine Agree.upd rfl ?_ | refine Agree.mix2 rfl ?_)), by rw [qBlks, swapL_length, hsw]; exact Hf⟩
    · refine ⟨_, rfl, ?_⟩
      try replace Hf := Hf.toBelow hbw0
      have hx := rowsOwn entCells_len Hf 1 rfl i hi
      obtain ⟨_, _, e1, hx⟩ := hx
      cases e1
      refine OPS.val rfl rfl rfl (by refine Ev.loadN (b := ga) (o := 0 + i * 4) (entCells h[i]) ?_ ?_ ?_ hx; exact agg_run rfl; exact size_run rfl; rfl) ?_
      refine OPS.nil ?_
      refine ⟨(by exact H), ?_⟩
      refine OPH.all [16] (by kernel_rfl) (by simp) rfl ?_
      intro i hi; simp only [List.mem_cons, List.not_mem_nil, or_false] at hi
      rcases hi with rfl
      · refine ⟨_, rfl, ?_⟩
        try replace Hf := Hf.toBelow hbw0
        have hx := rowsOwn entCells_len Hf 1 rfl k hk
        obtain ⟨_, _, e1, hx⟩ := hx
        cases e1
        refine OPS.val rfl rfl rfl (by refine Ev.loadN (b := ga) (o := 0 + k * 4) (entCells h[k]) ?_ ?_ ?_ hx; exact agg_run rfl; exact size_run rfl; rfl) ?_
        refine OPS.nil ?_
        refine ⟨(by exact H), ?_⟩
        refine OPH.take 24 rfl rfl rfl rfl (by kernel_rfl) (by kernel_rfl) (by kernel_rfl) rfl (by exact H) (fun w H => (by exact Ev.indexAddr (el_run rfl) (size_run rfl) rfl rfl rfl (by omega))) ?_
        refine OPH.all [25] (by kernel_rfl) (by simp) rfl ?_
        intro i hi; simp only [List.mem_cons, List.not_mem_nil, or_false] at hi
        rcases hi with rfl
        · refine ⟨_, rfl, ?_⟩
          refine OPS.store 1 _ rfl rfl rfl (size_run rfl) rfl (cA rfl) rfl rfl Hf rfl (by rw [List.length_append, rows_length entCells_len]; omega) ?_
          clear H Hf; intro w Hf
          replace Hf : SH w0 [gq, ga] w [⟨gq, 158, qCells (some ⟨ga, 0, none⟩) h.length cap p⟩, ⟨ga, 160, putL (h.flatMap entCells ++ sp) (0 + i * 4) (entCells h[k])⟩] := Hf
          rw [putL_ents h sp i _ hi] at Hf
          have H := Hf.reidx (L' := [⟨gq, 158, qCells (some ⟨ga, 0, none⟩) h.length cap p⟩]) [0] (by decide) rfl
          unfold qCells at H
          refine OPS.nil ?_
          refine ⟨(by exact H), ?_⟩
          refine OPH.take 26 rfl rfl rfl rfl (by kernel_rfl) (by kernel_rfl) (by kernel_rfl) rfl (by exact H) (fun w H => (by exact Ev.indexAddr (el_run rfl) (size_run rfl) rfl rfl rfl (by omega))) ?_
          refine OPH.all [27] (by kernel_rfl) (by simp) rfl ?_
          intro i hi; simp only [List.mem_cons, List.not_mem_nil, or_false] at hi
          rcases hi with rfl
          · refine ⟨_, rfl, ?_⟩
            refine OPS.store 1 _ rfl rfl rfl (size_run rfl) rfl (cA rfl) rfl rfl Hf rfl (by rw [List.length_append, rows_length entCells_len, List.length_set]; omega) ?_
            clear H Hf; intro w Hf
            replace Hf : SH w0 [gq, ga] w [⟨gq, 158, qCells (some ⟨ga, 0, none⟩) h.length cap p⟩, ⟨ga, 160, putL ((h.set i h[k]).flatMap entCells ++ sp) (0 + k * 4) (entCells h[i])⟩] := Hf
            rw [putL_ents _ sp k _ (by rw [List.length_set]; exact hk)] at Hf
            have H := Hf.reidx (L' := [⟨gq, 158, qCells (some ⟨ga, 0, none⟩) h.length cap p⟩]) [0] (by decide) rfl
            unfold qCells at H
            have hsw : swapL h i k = (h.set i h[k]).set k h[i] := by simp [swapL, hi, hk]
            refine OPS.nil ?_
            refine ⟨(by exact H), ?_⟩
            refine OPH.done (by kernel_rfl) ?_
            exact ⟨(by repeat (first | exact Agree.refl _ _ | exact Agree.mix _ _ _ | refine Agree.upd rfl ?_ | refine Agree.mix2 rfl ?_)), by rw [qBlks, swapL_length, hsw]; exact Hf⟩
  clear H
  rintro u w H
  refine ⟨_, rfl, ?_⟩
  exact ⟨rfl, H⟩
end Go.Proofs.Ytfddebpeiilohaa

/-
  Walks: the priority queue of stops: Peek, New.
-/
set_option linter.all false
namespace Go.Proofs.Ytfddebpeiilohaa
open Go Go.W Go.RowKit

def labV (x : Ent) : Value := .agg (labCells x).toArray
def peekV (h : List Ent) : Value := .tuple #[labV (h.headD ⟨0, 0, 0, 0⟩), .bool (!h.isEmpty)]
theorem qPeek (gq cap : Nat) (A : Option Addr) (p : Int) (h : List Ent) (w0 : World) (hq : cellsAt w0 gq 0 (qCells A h.length cap p)) (hr : RowsAt 4 entCells w0 A h) :
    Calls Try.prog 105 #[.pointer (some ⟨gq, 0, none⟩)] w0 fun e w' => e = .returned (peekV h) ∧ Below w0.heap.size w0 w' := by
  have H := SH.refl w0
  have hq' := hq
  obtain ⟨q0, q1, q2, _⟩ := hq
  refine Calls.ofWPc Try.func105 rfl Try.results105 Try.ntmps105 rfl ?_
  refine WP.seq ?_
  refine WP.region ?_
  refine OPS.alloc rfl rfl rfl rfl (zero_run rfl) rfl H ?_
  clear H; intro g2 w H
  refine OPS.val rfl rfl rfl (Ev.asB rfl) ?_
  refine OPS.nil ?_
  refine WP.seq ?_
  refine WP.seq ?_
  refine WP.region ?_
  refine OPS.val rfl rfl rfl (Ev.mvP rfl) ?_
  refine OPS.call (d := some 6) rfl rfl rfl (EvC.func (fun_run rfl)) (qLen gq h.length cap A p _ (cellsAt_sh H hq')) ?_
  rintro _ w ⟨rfl, hb⟩
  refine ⟨_, rfl, ?_⟩
  replace H := H.toBelow hb; clear hb
  refine OPS.val rfl rfl rfl (Ev.eql rfl rfl) ?_
  refine OPS.nil ?_
  refine WP.cond rfl (fun hc1 => ?_) (fun hc1 => ?_)
  · have h0 : h = [] := List.length_eq_zero_iff.1 (by simp at hc1; simp [hc1])
    subst h0
    refine WP.seq ?_
    refine WP.region ?_
    refine OPS.alloc rfl rfl rfl rfl (zero_run rfl) rfl H ?_
    clear H; intro g4 w H
    refine OPS.nil ?_
    refine WP.seq ?_
    refine WP.region ?_
    refine OPS.val rfl rfl rfl ((by exact Ev.loadO 0 H rfl (agg_run rfl) (size_run rfl) (by rfl) rfl)) ?_
    refine OPS.store 1 _ rfl rfl rfl (size_run rfl) rfl (cA rfl) rfl rfl H rfl (by simp) ?_
    clear H; intro w H; try simp only [List.set_cons_zero, List.set_cons_succ, putL, Nat.zero_add] at H
    refine OPS.val rfl rfl rfl (Ev.asB rfl) ?_
    refine OPS.nil ?_
    refine WP.ret ⟨[_, _], ⟨(by exact resCellA 1 H rfl (agg_run rfl) (size_run rfl) (by rfl) rfl), rfl, trivial⟩, ?_⟩
    exact ⟨rfl, H.below⟩
  have hpos : 0 < h.length := by simp at hc1; exact List.length_pos_iff.2 hc1
  obtain ⟨b, o, rfl, hx⟩ := hr 0 hpos
  obtain ⟨x, l, rfl⟩ : ∃ x l, h = x :: l := by
    cases h with
    | nil => exact absurd hpos (by simp)
    | cons x l => exact ⟨x, l, rfl⟩
  obtain ⟨x0, x1, x2, x3, _⟩ := cellsAt_sh H hx
  refine WP.skip ?_
  refine WP.seq ?_
  refine WP.region ?_
  refine OPS.val rfl rfl rfl (Ev.mvP rfl) ?_
  refine OPS.val rfl rfl rfl ((by exact Ev.nilCheckP rfl)) ?_
  refine OPS.val rfl rfl rfl (Ev.fieldAddr (fld_run rfl) rfl) ?_
  refine OPS.val rfl rfl rfl (Ev.load1 (agg_run rfl) rfl (by exact H.ld0 (by assumption))) ?_
  refine OPS.val rfl rfl rfl (Ev.indexAddr (j := 0) (el_run rfl) (size_run rfl) rfl rfl rfl hpos) ?_
  refine OPS.val rfl rfl rfl (Ev.fieldAddr (fld_run rfl) rfl) ?_
  refine OPS.val rfl rfl rfl (by refine Ev.loadN (b := b) (o := o + 0 * 4 + 0) (labCells x) ?_ ?_ ?_ ⟨x0, x1, x2, trivial⟩; exact agg_run rfl; exact size_run rfl; rfl) ?_
  refine OPS.store 0 _ rfl rfl rfl (size_run rfl) rfl (cA rfl) rfl rfl H rfl (by simp) ?_
  clear H; intro w H; try simp only [List.set_cons_zero, List.set_cons_succ, putL, Nat.zero_add] at H
  refine OPS.val rfl rfl rfl (Ev.asB rfl) ?_
  refine OPS.nil ?_
  refine WP.ret ⟨[_, _], ⟨(by exact resCellA 0 H rfl (agg_run rfl) (size_run rfl) (by rfl) rfl), rfl, trivial⟩, ?_⟩
  exact ⟨rfl, H.below⟩
theorem qNew (w0 : World) :
    Calls Try.prog 98 #[.func (.func 99) #[] #[]] w0 fun e w' => ∃ g, e = .returned (.pointer (some ⟨g, 0, none⟩)) ∧ SH w0 [] w' [⟨g, 158, qCells none 0 0 0⟩] := by
  have H := SH.refl w0
  refine Calls.ofWP Try.func98 rfl Try.results98 Try.ntmps98 rfl ?_
  refine WP.seq ?_
  refine WP.region ?_
  refine OPS.val rfl rfl rfl (Ev.asP rfl) ?_
  refine OPS.nil ?_
  refine WP.seq ?_
  refine WP.seq ?_
  refine WP.region ?_
  refine OPS.val rfl rfl rfl (Ev.mvF rfl) ?_
  refine OPS.val rfl rfl rfl (Ev.eqlFn Try.runUnderlying152 rfl rfl) ?_
  refine OPS.nil ?_
  refine WP.cond_f rfl ?_
  refine WP.skip ?_
  refine WP.seq ?_
  refine WP.region ?_
  refine OPS.val rfl rfl rfl (Ev.mvF rfl) ?_
  refine OPS.val rfl rfl rfl (Ev.build (bld_158_0 rfl)) ?_
  refine OPS.box rfl rfl rfl rfl (cA rfl) H ?_
  clear H; intro g7 w H
  refine OPS.val rfl rfl rfl (Ev.asP rfl) ?_
  refine OPS.nil ?_
  refine WP.ret ⟨_, rfl, ?_⟩
  exact ⟨_, rfl, H⟩
end Go.Proofs.Ytfddebpeiilohaa

/-
  Walk: the priority queue of stops: sink.
-/
set_option linter.all false
namespace Go.Proofs.Ytfddebpeiilohaa
open Go Go.W Go.RowKit

theorem entLtOk : LtOk entLt := ⟨fun x y h => by unfold entLt legLt at *; simp at *; omega, fun x y z h1 h2 => by unfold entLt legLt at *; simp at *; omega⟩
theorem qBeforeI (gq ga cap i k : Nat) (x y p : Int) (h : List Ent) (sp : List Value) (w0 w : World) (S : List Nat) (L : List Blk) (hx : x = i) (hy : y = k) (H : SH w0 S w L) (h0 : L[0]? = some ⟨gq, 158, qCells (some ⟨ga, 0, none⟩) h.length cap p⟩) (h1 : L[1]? = some ⟨ga, 160, h.flatMap entCells ++ sp⟩) (hi : i < h.length) (hk : k < h.length) :
    Calls Try.prog 103 #[.pointer (some ⟨gq, 0, none⟩), I x, I y] w fun e w' => e = .returned (.bool (entLt (h.getD i default) (h.getD k default))) ∧ Below w.heap.size w w' := by
  subst hx hy
  have e1 : h.getD i default = h[i] := by simp [hi]
  have e2 : h.getD k default = h[k] := by simp [hk]
  rw [e1, e2]
  exact qBefore gq cap i k (some ⟨ga, 0, none⟩) p h w (cellsAt_own H 0 h0 _ 0 fun j hj => by rw [Nat.zero_add]; exact List.getElem?_eq_getElem hj) (rowsOwn entCells_len H 1 h1) hi hk
theorem qSwapI (gq ga cap i k : Nat) (x y p : Int) (h : List Ent) (sp : List Value) (w0 w : World) (S : List Nat) (hx : x = i) (hy : y = k) (H : SH w0 S w (qBlks gq ga h cap p sp)) (hi : i < h.length) (hk : k < h.length) :
    Calls Try.prog 104 #[.pointer (some ⟨gq, 0, none⟩), I x, I y] w fun e w' => e = .returned (.tuple #[]) ∧ SH w0 S w' (qBlks gq ga (swapL h i k) cap p sp) := by
  subst hx hy
  refine (qSwap gq ga cap i k p h sp w hi hk (H.restart (List.Sublist.refl _))).mono fun e w' ⟨he, Hc⟩ => ⟨he, ?_⟩
  exact SH.call (L1 := []) (Lv := qBlks gq ga h cap p sp) H Hc

set_option maxHeartbeats 400000 in
theorem qSink (gq ga cap : Nat) (p : Int) (h : List Ent) (sp : List Value) (w0 : World) (S : List Nat) (hd : DownOk entLt h 0) (hl : h.length ≤ 1000000000) (H0 : SH w0 S w0 (qBlks gq ga h cap p sp)) :
    Calls Try.prog 106 #[.pointer (some ⟨gq, 0, none⟩)] w0 fun e w' => e = .returned (.tuple #[]) ∧ ∃ h' : List Ent, h'.Perm h ∧ HeapOk entLt h' ∧ SH w0 S w' (qBlks gq ga h' cap p sp) := by
  have H := H0
  refine Calls.ofWP Try.func106 rfl Try.results106 Try.ntmps106 rfl ?_
  refine WP.seq ?_
  refine WP.region ?_
  refine OPS.val rfl rfl rfl (Ev.asI rfl) ?_
  refine OPS.nil ?_
  refine WP.block ?_
  refine WP.loop [2, 3, 4, 5, 6, 7, 8, 9, 10, 11, 12, 13, 14, 15, 16, 17, 18, 19, 20, 21, 22, 23, 24, 25, 26, 27, 28, 29, 30, 31, 32, 33, 34, 35, 36, 37] (fun g e w' => ∃ (i : Nat) (h1 : List Ent), e 2 = I i ∧ SH w0 S w' (qBlks gq ga h1 cap p sp) ∧ h1.Perm h ∧ DownOk entLt h1 i ∧ (i < h.length ∨ h = []) ∧ i + g = h.length) (h.length) (⟨0, h, rfl, H, List.Perm.refl _, hd, by cases h with | nil => exact .inr rfl | cons x t => exact .inl (by simp), by omega⟩) ?_
  clear H
  rintro g u w ⟨i, h1, h2, H, hp, hd1, hi, hg⟩
  refine WP.know (t := 2) h2 ?_
  have hlen := hp.length_eq
  unfold qBlks qCells at H
  refine WP.block ?_
  refine WP.seq ?_
  refine WP.region ?_
  refine OPS.val rfl rfl rfl (Ev.mvI rfl) ?_
  refine OPS.val rfl rfl rfl (Ev.asI rfl) ?_
  refine OPS.nil ?_
  refine WP.seq ?_
  refine WP.seq ?_
  refine WP.region ?_
  refine OPS.val rfl rfl rfl (Ev.mvI rfl) ?_
  refine OPS.val rfl rfl rfl (Ev.mul rfl rfl (by unfold fits; omega)) ?_
  refine OPS.val rfl rfl rfl (Ev.add rfl rfl (by unfold fits; omega)) ?_
  refine OPS.val rfl rfl rfl (Ev.asI rfl) ?_
  refine OPS.nil ?_
  refine WP.block ?_
  refine WP.loop [3, 4, 9, 10, 11, 12, 13, 14, 15, 16, 17, 18, 19, 20, 21, 22, 23, 24, 25, 26, 27, 28, 29] (fun g2 e w' => ∃ k f : Nat, e 4 = I k ∧ e 3 = I f ∧ SH w0 S w' (qBlks gq ga h1 cap p sp) ∧ FirstOk entLt h1 i k f ∧ 2 * i + 1 ≤ k ∧ k + g2 = 2 * i + 3) (2) (⟨2 * i + 1, i, rfl, rfl, H, FirstOk.start entLtOk h1 i, by omega, by omega⟩) ?_
  clear H
  rintro g2 u2 w ⟨k, f, h4, h3, H, hF, hk1, hk2⟩
  refine WP.know (t := 4) h4 (WP.know (t := 3) h3 ?_)
  unfold qBlks qCells at H
  refine WP.seq ?_
  refine WP.seq ?_
  refine WP.region ?_
  refine OPS.val rfl rfl rfl (Ev.mvI rfl) ?_
  refine OPS.val rfl rfl rfl (Ev.mvI rfl) ?_
  refine OPS.val rfl rfl rfl (Ev.mul rfl rfl (by unfold fits; omega)) ?_
  refine OPS.val rfl rfl rfl (Ev.add rfl rfl (by unfold fits; omega)) ?_
  refine OPS.val rfl rfl rfl (Ev.leq rfl rfl) ?_
  refine OPS.val rfl rfl rfl (Ev.mvB rfl) ?_
  refine OPS.gval rfl rfl rfl rfl rfl (fun hg => Ev.mvI (by rfl)) ?_
  refine OPS.gval rfl rfl rfl rfl rfl (fun hg => Ev.mvP (by rfl)) ?_
  refine OPS.gval rfl rfl rfl rfl rfl (fun hg => (by exact Ev.nilCheckP (by exact gvE hg rfl))) ?_
  refine OPS.gval rfl rfl rfl rfl rfl (fun hg => Ev.fieldAddr (fld_run rfl) (by exact gvE hg rfl)) ?_
  refine OPS.gval rfl rfl rfl rfl rfl (fun hg => Ev.load1 (agg_run rfl) (by exact gvE hg rfl) (by exact H.ldL 0 rfl _ rfl)) ?_
  refine OPS.gval rfl rfl rfl rfl rfl (fun hg => Ev.len (el_run rfl) (by exact gvE hg rfl)) ?_
  refine OPS.gval rfl rfl rfl rfl rfl (fun hg => Ev.lss (by exact gvE hg rfl) (by exact gvE hg rfl)) ?_
  refine OPS.val rfl rfl rfl ((by exact Ev.pickAnd rfl rfl rfl)) ?_
  refine OPS.nil ?_
  refine WP.cond rfl (fun hc3 => ?_) (fun hc3 => ?_)
  · have hkl : k ≤ 2 * i + 2 ∧ k < h1.length := by simp at hc3; omega
    have hfl : f < h1.length := by rcases hF.place with q | q <;> omega
    refine WP.skip ?_
    refine WP.seq ?_
    refine WP.block ?_
    refine WP.seq ?_
    refine WP.region ?_
    refine OPS.val rfl rfl rfl (Ev.mvP rfl) ?_
    refine OPS.val rfl rfl rfl (Ev.mvI rfl) ?_
    refine OPS.val rfl rfl rfl (Ev.mvI rfl) ?_
    refine OPS.call (d := some 28) rfl rfl rfl (EvC.func (fun_run rfl)) (qBeforeI gq ga cap k f _ _ p h1 sp w0 w S _ rfl rfl H rfl rfl hkl.2 hfl) ?_
    rintro _ w ⟨rfl, hb⟩
    refine ⟨_, rfl, ?_⟩
    replace H := H.toBelow hb; clear hb
    refine OPS.nil ?_
    refine WP.cond rfl (fun hc5 => ?_) (fun hc5 => ?_)
    · have hF2 := hF.take entLtOk (by omega) hkl.2 (by omega) hc5
      refine WP.region ?_
      refine OPS.val rfl rfl rfl (Ev.mvI rfl) ?_
      refine OPS.val rfl rfl rfl (Ev.asI rfl) ?_
      refine OPS.nil ?_
      refine WP.region ?_
      refine OPS.val rfl rfl rfl (Ev.mvI rfl) ?_
      refine OPS.val rfl rfl rfl (Ev.add rfl rfl (by unfold fits; omega)) ?_
      refine OPS.val rfl rfl rfl (Ev.asI rfl) ?_
      refine OPS.nil ?_
      exact ⟨(by repeat (first | exact Agree.refl _ _ | exact Agree.mix _ _ _ | refine Agree.upd rfl ?_ | refine Agree.mix2 rfl ?_)), g2 - 1, by omega, k + 1, _, rfl, rfl, H, hF2, by omega, by omega⟩
    have hF2 := hF.keep hc5
    refine WP.skip ?_
    refine WP.region ?_
    refine OPS.val rfl rfl rfl (Ev.mvI rfl) ?_
    refine OPS.val rfl rfl rfl (Ev.add rfl rfl (by unfold fits; omega)) ?_
    refine OPS.val rfl rfl rfl (Ev.asI rfl) ?_
    refine OPS.nil ?_
    exact ⟨(by repeat (first | exact Agree.refl _ _ | exact Agree.mix _ _ _ | refine Agree.upd rfl ?_ | refine Agree.mix2 rfl ?_)), g2 - 1, by omega, k + 1, _, rfl, rfl, H, hF2, by omega, by omega⟩
  have hdn : 2 * i + 2 < k ∨ h1.length ≤ k := by simp at hc3; omega
  have hall := hF.done hdn
  refine WP.exit ?_
  refine XB.hit ?_
  refine WP.seq ?_
  refine WP.seq ?_
  refine WP.region ?_
  refine OPS.val rfl rfl rfl (Ev.mvI rfl) ?_
  refine OPS.val rfl rfl rfl (Ev.mvI rfl) ?_
  refine OPS.val rfl rfl rfl (Ev.eql rfl rfl) ?_
  refine OPS.nil ?_
  refine WP.cond rfl (fun hc7 => ?_) (fun hc7 => ?_)
  · refine WP.ret ⟨_, rfl, ?_⟩
    have hfi : f = i := by simp at hc7; omega
    subst hfi
    exact ⟨rfl, h1, hp, hd1.done hall, H⟩
  have hfi : f ≠ i := by simp at hc7; omega
  obtain ⟨q1, q2, q3⟩ : 0 < f ∧ (f - 1) / 2 = i ∧ f < h1.length := by rcases hF.place with q | q; exact absurd q hfi; exact q
  have hil : i < h1.length := by omega
  refine WP.skip ?_
  refine WP.seq ?_
  refine WP.region ?_
  refine OPS.val rfl rfl rfl (Ev.mvP rfl) ?_
  refine OPS.val rfl rfl rfl (Ev.mvI rfl) ?_
  refine OPS.val rfl rfl rfl (Ev.mvI rfl) ?_
  refine OPS.call (d := some 36) rfl rfl rfl (EvC.func (fun_run rfl)) (qSwapI gq ga cap i f _ _ p h1 sp w0 w S rfl rfl H hil q3) ?_
  rintro _ w ⟨rfl, H2⟩
  refine ⟨_, rfl, ?_⟩
  replace H := H2; clear H2
  refine OPS.nil ?_
  refine WP.region ?_
  refine OPS.val rfl rfl rfl (Ev.mvI rfl) ?_
  refine OPS.val rfl rfl rfl (Ev.asI rfl) ?_
  refine OPS.nil ?_
  exact ⟨(by repeat (first | exact Agree.refl _ _ | exact Agree.mix _ _ _ | refine Agree.upd rfl ?_ | refine Agree.mix2 rfl ?_)), h.length - f, by omega, f, swapL h1 i f, rfl, H, (swapL_perm hil q3).trans hp, hd1.step hil q3 q1 q2 hF.le hall, .inl (by omega), by omega⟩
end Go.Proofs.Ytfddebpeiilohaa

/-
  Walk: the priority queue of stops: Push.
-/
set_option linter.all false
namespace Go.Proofs.Ytfddebpeiilohaa
open Go Go.W Go.RowKit

abbrev QOwn (A : Option Addr) (cap : Nat) (h : List Ent) (Lo : List Blk) : Prop := OwnS A cap h.length (h.flatMap entCells) 160 4 Lo
/-- the blocks of a queue -/
def qLv (gq : Nat) (A : Option Addr) (cap : Nat) (h : List Ent) (p : Int) (Lo : List Blk) : List Blk := ⟨gq, 158, qCells A h.length cap p⟩ :: Lo
theorem entCells_one (h : List Ent) : ((h.flatMap entCells).all (·.oneCell')) = true := by
  rw [List.all_eq_true]; intro v hv
  obtain ⟨x, _, hx⟩ := List.mem_flatMap.1 hv
  simp only [entCells, List.mem_cons, List.not_mem_nil, or_false] at hx
  rcases hx with rfl | rfl | rfl | rfl <;> rfl

set_option maxHeartbeats 400000 in
theorem qPush (gq cap : Nat) (A : Option Addr) (p nd ds de : Int) (h : List Ent) (Lo : List Blk) (w0 : World) (S : List Nat) (hO : QOwn A cap h Lo) (hh : HeapOk entLt h) (hl : h.length ≤ 1000000) (hp : 0 ≤ p ∧ p ≤ 1000000000) (H0 : SH w0 S w0 (qLv gq A cap h p Lo)) :
    Calls Try.prog 101 #[.pointer (some ⟨gq, 0, none⟩), .agg #[I nd, I ds, I de]] w0 fun e w' => e = .returned (.tuple #[]) ∧ ∃ (A' : Option Addr) (cap' : Nat) (h' : List Ent) (Lo' : List Blk),
      h'.Perm (h ++ [⟨nd, ds, de, p⟩]) ∧ HeapOk entLt h' ∧ QOwn A' cap' h' Lo' ∧ SH w0 S w' (qLv gq A' cap' h' (p + 1) Lo') := by
  have H := H0
  unfold qLv qCells at H
  refine Calls.ofWP Try.func101 rfl Try.results101 Try.ntmps101 rfl ?_
  refine WP.seq ?_
  refine WP.region ?_
  refine OPS.box rfl rfl rfl rfl (cA rfl) H ?_
  clear H; intro g3 w H
  refine OPS.nil ?_
  refine WP.seq ?_
  refine WP.seq ?_
  refine WP.region ?_
  refine OPS.val rfl rfl rfl (Ev.mvP rfl) ?_
  refine OPS.val rfl rfl rfl (Ev.eqlPn Try.runUnderlying147 rfl rfl) ?_
  refine OPS.nil ?_
  refine WP.cond_f rfl ?_
  refine WP.skip ?_
  refine WP.seq ?_
  have Hf := H
  replace H := H.reidx (L' := [⟨g3, 150, [I nd, I ds, I de]⟩]) [0] (by decide) rfl
  refine WP.rheldC [7, 8, 9, 10, 11, 12, 13, 14, 15, 16, 17, 18, 19, 20, 21] (fun _ w' => ∃ (ga : Nat) (sp : List Value) (cap' : Nat), OwnS (some ⟨ga, 0, none⟩) cap' (h.length + 1) (h.flatMap entCells ++ entCells ⟨nd, ds, de, p⟩) 160 4 [⟨ga, 160, (h.flatMap entCells ++ entCells ⟨nd, ds, de, p⟩) ++ sp⟩] ∧ SH w0 S w' [⟨gq, 158, qCells (some ⟨ga, 0, none⟩) (h.length + 1) cap' p⟩, ⟨ga, 160, (h.flatMap entCells ++ entCells ⟨nd, ds, de, p⟩) ++ sp⟩]) mixed H ?_ ?_
  · clear H; intro w hbw2 H
    refine OPH.take 0 rfl rfl rfl rfl (by kernel_rfl) (by kernel_rfl) (by kernel_rfl) rfl (by exact H) (fun w H => Ev.mvP rfl) ?_
    refine OPH.take 1 rfl rfl rfl rfl (by kernel_rfl) (by kernel_rfl) (by kernel_rfl) rfl (by exact H) (fun w H => Ev.mvP rfl) ?_
    refine OPH.take 2 rfl rfl rfl rfl (by kernel_rfl) (by kernel_rfl) (by kernel_rfl) rfl (by exact H) (fun w H => (by exact Ev.nilCheckP rfl)) ?_
    refine OPH.take 3 rfl rfl rfl rfl (by kernel_rfl) (by kernel_rfl) (by kernel_rfl) rfl (by exact H) (fun w H => Ev.fieldAddr (fld_run rfl) rfl) ?_
    refine OPH.take 5 rfl rfl rfl rfl (by kernel_rfl) (by kernel_rfl) (by kernel_rfl) rfl (by exact H) (fun w H => (by exact Ev.loadO 0 H rfl (agg_run rfl) (size_run rfl) (by rfl) rfl)) ?_
    refine OPH.take 6 rfl rfl rfl rfl (by kernel_rfl) (by kernel_rfl) (by kernel_rfl) rfl (by exact H) (fun w H => Ev.mvP rfl) ?_
    refine OPH.take 7 rfl rfl rfl rfl (by kernel_rfl) (by kernel_rfl) (by kernel_rfl) rfl (by exact H) (fun w H => (by exact Ev.nilCheckP rfl)) ?_
    refine OPH.take 8 rfl rfl rfl rfl (by kernel_rfl) (by kernel_rfl) (by kernel_rfl) rfl (by exact H) (fun w H => Ev.fieldAddr (fld_run rfl) rfl) ?_
    refine OPH.all [4, 9] (by kernel_rfl) (by simp) rfl ?_
    intro i hi; simp only [List.mem_cons, List.not_mem_nil, or_false] at hi
    rcases hi with rfl | rfl
    · refine ⟨_, rfl, ?_⟩
      try replace Hf := Hf.toBelow hbw2
      refine OPS.val rfl rfl rfl (Ev.load1 (agg_run rfl) rfl (by exact Hf.ldL 1 rfl 1 rfl)) ?_
      refine OPS.nil ?_
      refine ⟨(by exact H), ?_⟩
      refine OPH.all [9] (by kernel_rfl) (by simp) rfl ?_
      intro i hi; simp only [List.mem_cons, List.not_mem_nil, or_false] at hi
      rcases hi with rfl
      · refine ⟨_, rfl, ?_⟩
        try replace Hf := Hf.toBelow hbw2
        refine OPS.val rfl rfl rfl (Ev.load1 (agg_run rfl) rfl (Hf.ldL 1 rfl 2 rfl)) ?_
        refine OPS.nil ?_
        refine ⟨(by exact H), ?_⟩
        refine OPH.take 10 rfl rfl rfl rfl (by kernel_rfl) (by kernel_rfl) (by kernel_rfl) rfl (by exact H) (fun w H => Ev.build (bld_160_0_1 rfl rfl)) ?_
        refine OPH.all [11] (by kernel_rfl) (by simp) rfl ?_
        intro i hi; simp only [List.mem_cons, List.not_mem_nil, or_false] at hi
        rcases hi with rfl
        · refine ⟨_, rfl, ?_⟩
          refine OPS.buildSlice rfl rfl rfl rfl (bsl_156_1_0 rfl) Hf ?_
          clear H Hf; intro g18 w Hf
          have H := Hf.reidx (L' := [⟨g3, 150, [I nd, I ds, I de]⟩]) [1] (by decide) rfl
          refine OPS.nil ?_
          refine ⟨(by exact H), ?_⟩
          refine OPH.all [12] (by kernel_rfl) (by simp) rfl ?_
          intro i hi; simp only [List.mem_cons, List.not_mem_nil, or_false] at hi
          rcases hi with rfl
          · refine ⟨_, rfl, ?_⟩
            refine OPS.append (m := 1) (news := entCells ⟨nd, ds, de, p⟩) (R := [⟨g18, 160, entCells ⟨nd, ds, de, p⟩⟩, ⟨g3, 150, [I nd, I ds, I de]⟩, ⟨gq, 158, qCells A h.length cap p⟩]) rfl rfl rfl rfl rfl (sl_run rfl) rfl rfl hO rfl (src_own Hf 0 rfl) rfl (by omega) (by unfold maxLen; omega) Hf (List.Perm.refl _) ?_
            clear H Hf hO; intro A' cap' Lo w hO Hf
            obtain ⟨ga, sp, rfl, rfl, _, _, hsl⟩ : ∃ g sp, A' = some ⟨g, 0, none⟩ ∧ Lo = [⟨g, 160, (h.flatMap entCells ++ entCells ⟨nd, ds, de, p⟩) ++ sp⟩] ∧ h.length + 1 ≤ cap' ∧ cap' ≤ maxLen ∧ ((h.flatMap entCells ++ entCells ⟨nd, ds, de, p⟩) ++ sp).length = cap' * 4 := by
              rcases hO.form with ⟨_, h, _⟩ | h
              · omega
              · exact h
            unfold qCells at Hf
            have H := Hf.reidx (L' := [⟨g3, 150, [I nd, I ds, I de]⟩]) [1] (by decide) rfl
            refine OPS.nil ?_
            refine ⟨(by exact H), ?_⟩
            refine OPH.take 13 rfl rfl rfl rfl (by kernel_rfl) (by kernel_rfl) (by kernel_rfl) rfl (by exact H) (fun w H => (by exact Ev.nilCheckP rfl)) ?_
            refine OPH.take 14 rfl rfl rfl rfl (by kernel_rfl) (by kernel_rfl) (by kernel_rfl) rfl (by exact H) (fun w H => Ev.fieldAddr (fld_run rfl) rfl) ?_
            refine OPH.all [15] (by kernel_rfl) (by simp) rfl ?_
            intro i hi; simp only [List.mem_cons, List.not_mem_nil, or_false] at hi
            rcases hi with rfl
            · refine ⟨_, rfl, ?_⟩
              refine OPS.store 2 _ rfl rfl rfl (size_run rfl) rfl (cS rfl) rfl rfl Hf rfl (by simp) ?_
              clear H Hf; intro w Hf
              have H := Hf.reidx (L' := [⟨g3, 150, [I nd, I ds, I de]⟩]) [1] (by decide) rfl
              replace Hf := Hf.reidx (L' := [⟨gq, 158, qCells (some ⟨ga, 0, none⟩) (h.length + 1) cap' p⟩, ⟨ga, 160, (h.flatMap entCells ++ entCells ⟨nd, ds, de, p⟩) ++ sp⟩]) [2, 3] (by decide) rfl
              refine OPS.nil ?_
              refine ⟨(by exact H), ?_⟩
              refine OPH.done (by kernel_rfl) ?_
              exact ⟨(by repeat (first | exact Agree.refl _ _ | exact Agree.mix _ _ _ | refine Agree.upd rfl ?_ | refine Agree.mix2 rfl ?_)), ga, sp, cap', hO, Hf⟩
    · refine ⟨_, rfl, ?_⟩
      try replace Hf := Hf.toBelow hbw2
      refine OPS.val rfl rfl rfl (Ev.load1 (agg_run rfl) rfl (Hf.ldL 1 rfl 2 rfl)) ?_
      refine OPS.nil ?_
      refine ⟨(by exact H), ?_⟩
      refine OPH.take 10 rfl rfl rfl rfl (by kernel_rfl) (by kernel_rfl) (by kernel_rfl) rfl (by exact H) (fun w H => Ev.build (bld_160_0_1 rfl rfl)) ?_
      refine OPH.all [4, 11] (by kernel_rfl) (by simp) rfl ?_
      intro i hi; simp only [List.mem_cons, List.not_mem_nil, or_false] at hi
      rcases hi with rfl | rfl
      · refine ⟨_, rfl, ?_⟩
        try replace Hf := Hf.toBelow hbw2
        refine OPS.val rfl rfl rfl (Ev.load1 (agg_run rfl) rfl (by exact Hf.ldL 1 rfl 1 rfl)) ?_
        refine OPS.nil ?_
        refine ⟨(by exact H), ?_⟩
        refine OPH.all [11] (by kernel_rfl) (by simp) rfl ?_
        intro i hi; simp only [List.mem_cons, List.not_mem_nil, or_false] at hi
        rcases hi with rfl
        · refine ⟨_, rfl, ?_⟩
          refine OPS.buildSlice rfl rfl rfl rfl (bsl_156_1_0 rfl) Hf ?_
          clear H Hf; intro g18 w Hf
          have H := Hf.reidx (L' := [⟨g3, 150, [I nd, I ds, I de]⟩]) [1] (by decide) rfl
          refine OPS.nil ?_
          refine ⟨(by exact H), ?_⟩
          refine OPH.all [12] (by kernel_rfl) (by simp) rfl ?_
          intro i hi; simp only [List.mem_cons, List.not_mem_nil, or_false] at hi
          rcases hi with rfl
          · refine ⟨_, rfl, ?_⟩
            refine OPS.append (m := 1) (news := entCells ⟨nd, ds, de, p⟩) (R := [⟨g18, 160, entCells ⟨nd, ds, de, p⟩⟩, ⟨g3, 150, [I nd, I ds, I de]⟩, ⟨gq, 158, qCells A h.length cap p⟩]) rfl rfl rfl rfl rfl (sl_run rfl) rfl rfl hO rfl (src_own Hf 0 rfl) rfl (by omega) (by unfold maxLen; omega) Hf (List.Perm.refl _) ?_
            clear H Hf hO; intro A' cap' Lo w hO Hf
            obtain ⟨ga, sp, rfl, rfl, _, _, hsl⟩ : ∃ g sp, A' = some ⟨g, 0, none⟩ ∧ Lo = [⟨g, 160, (h.flatMap entCells ++ entCells ⟨nd, ds, de, p⟩) ++ sp⟩] ∧ h.length + 1 ≤ cap' ∧ cap' ≤ maxLen ∧ ((h.flatMap entCells ++ entCells ⟨nd, ds, de, p⟩) ++ sp).length = cap' * 4 := by
              rcases hO.form with ⟨_, h, _⟩ | h
              · omega
              · exact h
            unfold qCells at Hf
            have H := Hf.reidx (L' := [⟨g3, 150, [I nd, I ds, I de]⟩]) [1] (by decide) rfl
            refine OPS.nil ?_
            refine ⟨(by exact H), ?_⟩
            refine OPH.take 13 rfl rfl rfl rfl (by kernel_rfl) (by kernel_rfl) (by kernel_rfl) rfl (by exact H) (fun w H => (by exact Ev.nilCheckP rfl)) ?_
            refine OPH.take 14 rfl rfl rfl rfl (by kernel_rfl) (by kernel_rfl) (by kernel_rfl) rfl (by exact H) (fun w H => Ev.fieldAddr (fld_run rfl) rfl) ?_
            refine OPH.all [15] (by kernel_rfl) (by simp) rfl ?_
            intro i hi; simp only [List.mem_cons, List.not_mem_nil, or_false] at hi
            rcases hi with rfl
            · refine ⟨_, rfl, ?_⟩
              refine OPS.store 2 _ rfl rfl rfl (size_run rfl) rfl (cS rfl) rfl rfl Hf rfl (by simp) ?_
              clear H Hf; intro w Hf
              have H := Hf.reidx (L' := [⟨g3, 150, [I nd, I ds, I de]⟩]) [1] (by decide) rfl
              replace Hf := Hf.reidx (L' := [⟨gq, 158, qCells (some ⟨ga, 0, none⟩) (h.length + 1) cap' p⟩, ⟨ga, 160, (h.flatMap entCells ++ entCells ⟨nd, ds, de, p⟩) ++ sp⟩]) [2, 3] (by decide) rfl
              refine OPS.nil ?_
              refine ⟨(by exact H), ?_⟩
              refine OPH.done (by kernel_rfl) ?_
              exact ⟨(by repeat (first | exact Agree.refl _ _ | exact Agree.mix _ _ _ | refine Agree.upd rfl ?_ | refine Agree.mix2 rfl ?_)), ga, sp, cap', hO, Hf⟩
      · refine ⟨_, rfl, ?_⟩
        refine OPS.buildSlice rfl rfl rfl rfl (bsl_156_1_0 rfl) Hf ?_
        clear H Hf; intro g18 w Hf
        have H := Hf.reidx (L' := [⟨g3, 150, [I nd, I ds, I de]⟩]) [1] (by decide) rfl
        refine OPS.nil ?_
        refine ⟨(by exact H), ?_⟩
        refine OPH.all [4] (by kernel_rfl) (by simp) rfl ?_
        intro i hi; simp only [List.mem_cons, List.not_mem_nil, or_false] at hi
        rcases hi with rfl
        · refine ⟨_, rfl, ?_⟩
          try replace Hf := Hf.toBelow hbw2
          refine OPS.val rfl rfl rfl (Ev.load1 (agg_run rfl) rfl (by exact Hf.ldL 2 rfl 1 rfl)) ?_
          refine OPS.nil ?_
          refine ⟨(by exact H), ?_⟩
          refine OPH.all [12] (by kernel_rfl) (by simp) rfl ?_
          intro i hi; simp only [List.mem_cons, List.not_mem_nil, or_false] at hi
          rcases hi with rfl
          · refine ⟨_, rfl, ?_⟩
            refine OPS.append (m := 1) (news := entCells ⟨nd, ds, de, p⟩) (R := [⟨g18, 160, entCells ⟨nd, ds, de, p⟩⟩, ⟨g3, 150, [I nd, I ds, I de]⟩, ⟨gq, 158, qCells A h.length cap p⟩]) rfl rfl rfl rfl rfl (sl_run rfl) rfl rfl hO rfl (src_own Hf 0 rfl) rfl (by omega) (by unfold maxLen; omega) Hf (List.Perm.refl _) ?_
            clear H Hf hO; intro A' cap' Lo w hO Hf
            obtain ⟨ga, sp, rfl, rfl, _, _, hsl⟩ : ∃ g sp, A' = some ⟨g, 0, none⟩ ∧ Lo = [⟨g, 160, (h.flatMap entCells ++ entCells ⟨nd, ds, de, p⟩) ++ sp⟩] ∧ h.length + 1 ≤ cap' ∧ cap' ≤ maxLen ∧ ((h.flatMap entCells ++ entCells ⟨nd, ds, de, p⟩) ++ sp).length = cap' * 4 := by
              rcases hO.form with ⟨_, h, _⟩ | h
              · omega
              · exact h
            unfold qCells at Hf
            have H := Hf.reidx (L' := [⟨g3, 150, [I nd, I ds, I de]⟩]) [1] (by decide) rfl
            refine OPS.nil ?_
            refine ⟨(by exact H), ?_⟩
            refine OPH.take 13 rfl rfl rfl rfl (by kernel_rfl) (by kernel_rfl) (by kernel_rfl) rfl (by exact H) (fun w H => (by exact Ev.nilCheckP rfl)) ?_
            refine OPH.take 14 rfl rfl rfl rfl (by kernel_rfl) (by kernel_rfl) (by kernel_rfl) rfl (by exact H) (fun w H => Ev.fieldAddr (fld_run rfl) rfl) ?_
            refine OPH.all [15] (by kernel_rfl) (by simp) rfl ?_
            intro i hi; simp only [List.mem_cons, List.not_mem_nil, or_false] at hi
            rcases hi with rfl
            · refine ⟨_, rfl, ?_⟩
              refine OPS.store 2 _ rfl rfl rfl (size_run rfl) rfl (cS rfl) rfl rfl Hf rfl (by simp) ?_
              clear H Hf; intro w Hf
              have H := Hf.reidx (L' := [⟨g3, 150, [I nd, I ds, I de]⟩]) [1] (by decide) rfl
              replace Hf := Hf.reidx (L' := [⟨gq, 158, qCells (some ⟨ga, 0, none⟩) (h.length + 1) cap' p⟩, ⟨ga, 160, (h.flatMap entCells ++ entCells ⟨nd, ds, de, p⟩) ++ sp⟩]) [2, 3] (by decide) rfl
              refine OPS.nil ?_
              refine ⟨(by exact H), ?_⟩
              refine OPH.done (by kernel_rfl) ?_
              exact ⟨(by repeat (first | exact Agree.refl _ _ | exact Agree.mix _ _ _ | refine Agree.upd rfl ?_ | refine Agree.mix2 rfl ?_)), ga, sp, cap', hO, Hf⟩
  clear H
  rintro u w ⟨ga, sp, cap', hO, H⟩
  have e1 : (h ++ [(⟨nd, ds, de, p⟩ : Ent)]).flatMap entCells = h.flatMap entCells ++ entCells ⟨nd, ds, de, p⟩ := by simp
  have e2 : (h ++ [(⟨nd, ds, de, p⟩ : Ent)]).length = h.length + 1 := by simp
  rw [← e1, ← e2] at H hO
  have hup := UpOk.start hh (⟨nd, ds, de, p⟩ : Ent)
  unfold qCells at H
  refine WP.seq ?_
  refine WP.region ?_
  refine OPS.val rfl rfl rfl (Ev.mvP rfl) ?_
  refine OPS.val rfl rfl rfl ((by exact Ev.nilCheckP rfl)) ?_
  refine OPS.val rfl rfl rfl (Ev.fieldAddr (fld_run rfl) rfl) ?_
  refine OPS.val rfl rfl rfl (Ev.load1 (agg_run rfl) rfl (by exact H.ldL 0 rfl _ rfl)) ?_
  refine OPS.val rfl rfl rfl (Ev.add rfl rfl (by unfold fits; omega)) ?_
  refine OPS.val rfl rfl rfl ((by exact Ev.nilCheckP rfl)) ?_
  refine OPS.val rfl rfl rfl (Ev.fieldAddr (fld_run rfl) rfl) ?_
  refine OPS.store 0 _ rfl rfl rfl (size_run rfl) rfl (cI rfl) rfl rfl H rfl (by simp) ?_
  clear H; intro w H; try simp only [List.set_cons_zero, List.set_cons_succ, putL, Nat.zero_add] at H
  refine OPS.nil ?_
  refine WP.seq ?_
  refine WP.region ?_
  refine OPS.val rfl rfl rfl (Ev.mvP rfl) ?_
  refine OPS.val rfl rfl rfl ((by exact Ev.nilCheckP rfl)) ?_
  refine OPS.val rfl rfl rfl (Ev.fieldAddr (fld_run rfl) rfl) ?_
  refine OPS.val rfl rfl rfl (Ev.load1 (agg_run rfl) rfl (by exact H.ldL 0 rfl _ rfl)) ?_
  refine OPS.val rfl rfl rfl (Ev.len (el_run rfl) rfl) ?_
  refine OPS.val rfl rfl rfl (Ev.sub rfl rfl (by unfold fits; omega)) ?_
  refine OPS.val rfl rfl rfl (Ev.asI rfl) ?_
  refine OPS.nil ?_
  refine WP.block ?_
  refine WP.loop [4, 35, 36, 37, 38, 39, 40, 41, 42, 43, 44, 45, 46, 47, 48, 49, 50, 51, 52, 53] (fun g e w' => ∃ (i : Nat) (h1 : List Ent), i = g ∧ e 4 = I i ∧ SH w0 S w' (qBlks gq ga h1 cap' (p + 1) sp) ∧ h1.Perm (h ++ [⟨nd, ds, de, p⟩]) ∧ UpOk entLt h1 i) (h.length) (⟨h.length, h ++ [(⟨nd, ds, de, p⟩ : Ent)], rfl, by rw [show (((h ++ [(⟨nd, ds, de, p⟩ : Ent)]).length : Nat) : Int) - 1 = (h.length : Nat) from by rw [e2]; omega]; rfl, H, List.Perm.refl _, hup⟩) ?_
  clear H
  rintro g u w ⟨i, h1, rfl, h4, H, hpm, hu⟩
  refine WP.know (t := 4) h4 ?_
  have hlen := hpm.length_eq
  have hil := hu.lt'
  unfold qBlks qCells at H
  refine WP.seq ?_
  refine WP.seq ?_
  skip
  refine WP.region ?_
  refine OPS.val rfl rfl rfl (Ev.mvI rfl) ?_
  refine OPS.val rfl rfl rfl (Ev.gtr rfl rfl) ?_
  refine OPS.val rfl rfl rfl (Ev.mvB rfl) ?_
  refine OPS.gval rfl rfl rfl rfl rfl (fun hg => Ev.mvP (by rfl)) ?_
  refine OPS.gval rfl rfl rfl rfl rfl (fun hg => Ev.mvI (by rfl)) ?_
  refine OPS.gval rfl rfl rfl rfl rfl (fun hg => Ev.mvI (by rfl)) ?_
  refine OPS.gval rfl rfl rfl rfl rfl (fun hg => Ev.sub (by exact gvE hg rfl) (by rfl) (by unfold fits; omega)) ?_
  refine OPS.gval rfl rfl rfl rfl rfl (fun hg => Ev.quo (gvE hg rfl) rfl (by simp at hg; omega) (by omega) (by omega)) ?_
  refine OPS.gcall (f := 103) (args := [.pointer (some ⟨gq, 0, none⟩), I i, I (((i : Int) - 1) / 2)]) (v := .bool (entLt (h1.getD i default) (h1.getD ((i - 1) / 2) default))) rfl rfl rfl rfl rfl (fun hg => EvC.conv (EvC.func (fun_run rfl)) (l3 (gvE hg rfl) (gvE hg rfl) (gvE hg rfl))) (fun hg => qBeforeI gq ga cap' i ((i - 1) / 2) _ _ (p + 1) h1 sp w0 w S _ rfl (by simp at hg; omega) H rfl rfl hil (by omega)) ?_
  intro w hbc; replace H := H.toBelow hbc; clear hbc
  refine OPS.val rfl rfl rfl ((by exact Ev.pickAnd rfl rfl rfl)) ?_
  refine OPS.nil ?_
  refine WP.cond rfl (fun hc5 => ?_) (fun hc5 => ?_)
  · rw [Bool.and_eq_true, decide_eq_true_eq] at hc5
    have hi0 : 0 < i := by omega
    refine WP.skip ?_
    refine WP.seq ?_
    refine WP.block ?_
    refine WP.region ?_
    refine OPS.val rfl rfl rfl (Ev.mvP rfl) ?_
    refine OPS.val rfl rfl rfl (Ev.mvI rfl) ?_
    refine OPS.val rfl rfl rfl (Ev.mvI rfl) ?_
    refine OPS.val rfl rfl rfl (Ev.sub rfl rfl (by unfold fits; omega)) ?_
    refine OPS.val rfl rfl rfl (Ev.quo rfl rfl (by omega) (by omega) (by omega)) ?_
    refine OPS.call (d := some 53) rfl rfl rfl (EvC.func (fun_run rfl)) (qSwapI gq ga cap' i ((i - 1) / 2) _ _ (p + 1) h1 sp w0 w S rfl (by omega) H hil (by omega)) ?_
    rintro _ w ⟨rfl, H2⟩
    refine ⟨_, rfl, ?_⟩
    replace H := H2; clear H2
    refine OPS.nil ?_
    refine WP.region ?_
    refine OPS.val rfl rfl rfl (Ev.mvI rfl) ?_
    refine OPS.val rfl rfl rfl (Ev.sub rfl rfl (by unfold fits; omega)) ?_
    refine OPS.val rfl rfl rfl (Ev.quo rfl rfl (by omega) (by omega) (by omega)) ?_
    refine OPS.val rfl rfl rfl (Ev.asI rfl) ?_
    refine OPS.nil ?_
    exact ⟨(by repeat (first | exact Agree.refl _ _ | exact Agree.mix _ _ _ | refine Agree.upd rfl ?_ | refine Agree.mix2 rfl ?_)), (i - 1) / 2, by omega, (i - 1) / 2, swapL h1 i ((i - 1) / 2), rfl, by rw [show (((i - 1) / 2 : Nat) : Int) = ((i : Int) - 1) / 2 from by omega]; rfl, H, (swapL_perm hil (by omega)).trans hpm, hu.step entLtOk hi0 hc5.2⟩
  refine WP.exit ?_
  refine XB.hit ?_
  refine ⟨_, rfl, ?_⟩
  have hfin : HeapOk entLt h1 := hu.done (by
    rcases Nat.eq_zero_or_pos i with h0 | h0
    · exact .inl h0
    · refine .inr ?_
      have q : decide ((0 : Int) < i) = true := by simp; omega
      rw [q, Bool.true_and] at hc5
      exact hc5)
  have e3 : (h1.flatMap entCells).length = ((h ++ [(⟨nd, ds, de, p⟩ : Ent)]).flatMap entCells).length := by rw [rows_length entCells_len, rows_length entCells_len, hlen]
  have hO2 : QOwn (some ⟨ga, 0, none⟩) cap' h1 [⟨ga, 160, h1.flatMap entCells ++ sp⟩] := by
    refine ⟨rows_length entCells_len h1, .inr ⟨ga, sp, rfl, rfl, ?_⟩⟩
    rcases hO.form with ⟨_, q, _⟩ | ⟨g', sp', q1, q2, q3, q4, q5⟩
    · rw [e2] at q; omega
    · have q6 : sp' = sp := by
        simp only [List.cons.injEq, Blk.mk.injEq, and_true, true_and] at q2
        exact (List.append_cancel_left q2.2).symm
      subst q6
      refine ⟨by rw [hlen]; exact q3, q4, ?_⟩
      rw [List.length_append] at q5 ⊢
      rw [e3]; exact q5
  exact ⟨rfl, _, cap', h1, _, hpm, hfin, hO2, H⟩
end Go.Proofs.Ytfddebpeiilohaa

/-
  Walk: the priority queue of stops: Pop.
-/
set_option linter.all false
namespace Go.Proofs.Ytfddebpeiilohaa
open Go Go.W Go.RowKit

theorem qRows {A : Option Addr} {cap gq : Nat} {p : Int} {h : List Ent} {Lo : List Blk} {w0 w : World} {S : List Nat} (hO : QOwn A cap h Lo) (H : SH w0 S w (qLv gq A cap h p Lo)) : RowsAt 4 entCells w A h := by
  rcases hO.form with ⟨_, q, _, _⟩ | ⟨g, sp, rfl, rfl, _⟩
  · rw [List.length_eq_zero_iff.1 q]; exact RowsAt.nil
  · exact rowsOwn entCells_len H 1 rfl
theorem popL_set (h : List Ent) (z : Ent) (hl : 0 < h.length) : (swapL h 0 (h.length - 1)).set (h.length - 1) z = popL h ++ [z] := by
  have e : (swapL h 0 (h.length - 1)).length = h.length := swapL_length ..
  rw [List.set_eq_take_append_cons_drop, if_pos (by omega), List.drop_eq_nil_of_le (by omega)]; rfl
/-- what Pop returns -/
def popV (x : Ent) (b : Bool) : Value := .tuple #[labV x, .bool b]

set_option maxHeartbeats 400000 in
theorem qPop (gq cap : Nat) (A : Option Addr) (p : Int) (h : List Ent) (Lo : List Blk) (w0 : World) (S : List Nat) (hO : QOwn A cap h Lo) (hh : HeapOk entLt h) (hl : h.length ≤ 1000000) (H0 : SH w0 S w0 (qLv gq A cap h p Lo)) :
    Calls Try.prog 102 #[.pointer (some ⟨gq, 0, none⟩)] w0 fun e w' =>
      (h = [] ∧ e = .returned (popV ⟨0, 0, 0, 0⟩ false) ∧ SH w0 S w' (qLv gq A cap h p Lo)) ∨
      ∃ (x : Ent) (t h' : List Ent) (Lo' : List Blk), h = x :: t ∧ e = .returned (popV x true) ∧ (x :: h').Perm h ∧ HeapOk entLt h' ∧ QOwn A cap h' Lo' ∧ SH w0 S w' (qLv gq A cap h' p Lo') := by
  have H := H0
  have hrow : ∀ w, SH w0 S w (qLv gq A cap h p Lo) → RowsAt 4 entCells w A h := fun w H => qRows hO H
  refine Calls.ofWPc Try.func102 rfl Try.results102 Try.ntmps102 rfl ?_
  refine WP.seq ?_
  refine WP.region ?_
  refine OPS.alloc rfl rfl rfl rfl (zero_run rfl) rfl H ?_
  clear H; intro g2 w H
  refine OPS.val rfl rfl rfl (Ev.asB rfl) ?_
  refine OPS.nil ?_
  refine WP.seq ?_
  have Hq := H.reidx (L' := [⟨gq, 158, qCells A h.length cap p⟩]) [1] (by decide) rfl
  have hr1 := hrow w (H.drop (List.sublist_cons_self _ _))
  have hq1 : cellsAt w gq 0 (qCells A h.length cap p) := cellsAt_own H 1 rfl _ 0 fun j hj => by rw [Nat.zero_add]; exact List.getElem?_eq_getElem hj
  clear Hq
  refine WP.region ?_
  refine OPS.val rfl rfl rfl (Ev.mvP rfl) ?_
  refine OPS.call (d := some 9) rfl rfl rfl (EvC.func (fun_run rfl)) (qPeek gq cap A p h _ hq1 hr1) ?_
  rintro _ w ⟨rfl, hb⟩
  refine ⟨_, rfl, ?_⟩
  replace H := H.toBelow hb; clear hb
  refine OPS.val rfl rfl rfl (Ev.mvT rfl) ?_
  refine OPS.val rfl rfl rfl (Ev.extract rfl rfl) ?_
  refine OPS.val rfl rfl rfl (Ev.extract rfl rfl) ?_
  refine OPS.alloc rfl rfl rfl rfl (zero_run rfl) rfl H ?_
  clear H; intro g4 w H
  refine OPS.store 0 _ rfl rfl rfl (size_run rfl) rfl (cA rfl) rfl rfl H rfl (by simp) ?_
  clear H; intro w H; try simp only [List.set_cons_zero, List.set_cons_succ, putL, Nat.zero_add] at H
  refine OPS.val rfl rfl rfl (Ev.asB rfl) ?_
  refine OPS.nil ?_
  refine WP.seq ?_
  refine WP.seq ?_
  refine WP.region ?_
  refine OPS.val rfl rfl rfl (Ev.mvB rfl) ?_
  refine OPS.val rfl rfl rfl (Ev.not rfl) ?_
  refine OPS.nil ?_
  refine WP.cond rfl (fun hc2 => ?_) (fun hc2 => ?_)
  · have h0 : h = [] := by cases h with | nil => rfl | cons x t => simp at hc2
    subst h0
    refine WP.seq ?_
    refine WP.region ?_
    refine OPS.val rfl rfl rfl ((by exact Ev.loadO 0 H rfl (agg_run rfl) (size_run rfl) (by rfl) rfl)) ?_
    refine OPS.store 1 _ rfl rfl rfl (size_run rfl) rfl (cA rfl) rfl rfl H rfl (by simp) ?_
    clear H; intro w H; try simp only [List.set_cons_zero, List.set_cons_succ, putL, Nat.zero_add] at H
    refine OPS.val rfl rfl rfl (Ev.asB rfl) ?_
    refine OPS.nil ?_
    refine WP.ret ⟨[_, _], ⟨(by exact resCellA 1 H rfl (agg_run rfl) (size_run rfl) (by rfl) rfl), rfl, trivial⟩, ?_⟩
    exact .inl ⟨rfl, rfl, H.drop ((List.sublist_cons_self _ _).trans (List.sublist_cons_self _ _))⟩
  obtain ⟨x, t, rfl⟩ : ∃ x t, h = x :: t := by cases h with | nil => simp at hc2 | cons x t => exact ⟨x, t, rfl⟩
  obtain ⟨ga, sp, rfl, rfl, hcap, hmx, hsl⟩ : ∃ g sp, A = some ⟨g, 0, none⟩ ∧ Lo = [⟨g, 160, (x :: t).flatMap entCells ++ sp⟩] ∧ (x :: t).length ≤ cap ∧ cap ≤ maxLen ∧ ((x :: t).flatMap entCells ++ sp).length = cap * 4 := by
    rcases hO.form with ⟨_, h, _⟩ | h
    · simp at h
    · exact h
  simp only [List.length_cons] at hcap hl
  have hlc : (x :: t).length = t.length + 1 := rfl
  unfold qLv qCells at H
  refine WP.skip ?_
  refine WP.seq ?_
  refine WP.region ?_
  refine OPS.val rfl rfl rfl (Ev.mvP rfl) ?_
  refine OPS.val rfl rfl rfl ((by exact Ev.nilCheckP rfl)) ?_
  refine OPS.val rfl rfl rfl (Ev.fieldAddr (fld_run rfl) rfl) ?_
  refine OPS.val rfl rfl rfl (Ev.load1 (agg_run rfl) rfl (by exact H.ldL 2 rfl _ rfl)) ?_
  refine OPS.val rfl rfl rfl (Ev.len (el_run rfl) rfl) ?_
  refine OPS.val rfl rfl rfl (Ev.sub rfl rfl (by unfold fits; omega)) ?_
  refine OPS.val rfl rfl rfl (Ev.asI rfl) ?_
  refine OPS.nil ?_
  refine WP.seq ?_
  refine WP.region ?_
  refine OPS.val rfl rfl rfl (Ev.mvP rfl) ?_
  refine OPS.val rfl rfl rfl (Ev.mvI rfl) ?_
  refine OPS.call (d := some 23) rfl rfl rfl (EvC.func (fun_run rfl)) (qSwapI gq ga cap 0 t.length _ _ p (x :: t) sp w w (qBlks gq ga (x :: t) cap p sp |>.map (·.g)) rfl (by simp only [List.length_cons]; omega) (SH.restart H (Lv := qBlks gq ga (x :: t) cap p sp) ((List.sublist_cons_self _ _).trans (List.sublist_cons_self _ _))) (by simp) (by simp)) ?_
  rintro _ w ⟨rfl, H2⟩
  refine ⟨_, rfl, ?_⟩
  replace H := SH.call (Lv := qBlks gq ga (x :: t) cap p sp) (L1 := [_, _]) H H2
  clear H2
  unfold qBlks qCells at H
  rw [swapL_length] at H
  refine OPS.nil ?_
  refine WP.seq ?_
  refine WP.region ?_
  refine OPS.val rfl rfl rfl (Ev.mvP rfl) ?_
  refine OPS.val rfl rfl rfl ((by exact Ev.nilCheckP rfl)) ?_
  refine OPS.val rfl rfl rfl (Ev.fieldAddr (fld_run rfl) rfl) ?_
  refine OPS.val rfl rfl rfl (Ev.load1 (agg_run rfl) rfl (by exact H.ldL 2 rfl _ rfl)) ?_
  refine OPS.val rfl rfl rfl (Ev.mvI rfl) ?_
  refine OPS.val rfl rfl rfl (Ev.sliceFrom2 (j := t.length) (el_run rfl) (size_run rfl) rfl rfl (by simp only [List.length_cons]; omega) (by simp) (by omega)) ?_
  refine OPS.clear 3 _ rfl rfl rfl (zs := entCells ⟨0, 0, 0, 0⟩) (el_run rfl) (zero_run rfl) rfl (by decide) rfl rfl (by simp) H rfl (by simp only [List.length_append, rows_length entCells_len, swapL_length, hlc, entCells_len]; omega) ?_
  clear H; intro w H
  simp only [List.set_cons_zero, List.set_cons_succ] at H
  rw [show (x :: t).length - t.length = 1 from by rw [hlc]; omega, show mkL 1 (entCells ⟨0, 0, 0, 0⟩) = entCells ⟨0, 0, 0, 0⟩ from rfl, putL_ents _ _ _ _ (by rw [swapL_length, hlc]; omega),
    show (swapL (x :: t) 0 t.length).set t.length ⟨0, 0, 0, 0⟩ = popL (x :: t) ++ [⟨0, 0, 0, 0⟩] from popL_set (x :: t) _ (by simp), List.flatMap_append, List.append_assoc] at H
  refine OPS.nil ?_
  refine WP.seq ?_
  refine WP.region ?_
  refine OPS.val rfl rfl rfl (Ev.mvP rfl) ?_
  refine OPS.val rfl rfl rfl (Ev.mvP rfl) ?_
  refine OPS.val rfl rfl rfl ((by exact Ev.nilCheckP rfl)) ?_
  refine OPS.val rfl rfl rfl (Ev.fieldAddr (fld_run rfl) rfl) ?_
  refine OPS.val rfl rfl rfl (Ev.load1 (agg_run rfl) rfl (by exact H.ldL 2 rfl _ rfl)) ?_
  refine OPS.val rfl rfl rfl (Ev.mvI rfl) ?_
  refine OPS.val rfl rfl rfl (Ev.sliceTo (j := t.length) (el_run rfl) ⟨4, size_run rfl⟩ rfl rfl (by simp only [List.length_cons]; omega) (by omega)) ?_
  refine OPS.val rfl rfl rfl ((by exact Ev.nilCheckP rfl)) ?_
  refine OPS.val rfl rfl rfl (Ev.fieldAddr (fld_run rfl) rfl) ?_
  refine OPS.store 2 _ rfl rfl rfl (size_run rfl) rfl (cS rfl) rfl rfl H rfl (by simp) ?_
  clear H; intro w H; try simp only [List.set_cons_zero, List.set_cons_succ, putL, Nat.zero_add] at H
  refine OPS.nil ?_
  refine WP.seq ?_
  refine WP.region ?_
  refine OPS.val rfl rfl rfl (Ev.mvP rfl) ?_
  refine OPS.call (d := some 40) rfl rfl rfl (EvC.func (fun_run rfl)) (qSink gq ga cap p (popL (x :: t)) ([⟨0, 0, 0, 0⟩].flatMap entCells ++ sp) w (qBlks gq ga (popL (x :: t)) cap p ([⟨0, 0, 0, 0⟩].flatMap entCells ++ sp) |>.map (·.g)) (DownOk.start hh) (by rw [popL_length, hlc]; omega) (SH.restart H (Lv := qBlks gq ga (popL (x :: t)) cap p ([⟨0, 0, 0, 0⟩].flatMap entCells ++ sp)) (by unfold qBlks qCells; rw [popL_length]; exact ((List.sublist_cons_self _ _).trans (List.sublist_cons_self _ _))))) ?_
  rintro _ w ⟨rfl, h', hp', hh', H2⟩
  refine ⟨_, rfl, ?_⟩
  replace H := SH.call (Lv := qBlks gq ga (popL (x :: t)) cap p ([⟨0, 0, 0, 0⟩].flatMap entCells ++ sp)) (L1 := [⟨g4, 150, labCells x⟩, ⟨g2, 150, [I 0, I 0, I 0]⟩]) (by unfold qBlks qCells; rw [popL_length]; exact H) H2
  clear H2
  have hlen' : h'.length = t.length := by rw [hp'.length_eq, popL_length]; rfl
  unfold qBlks labCells at H
  refine OPS.nil ?_
  refine WP.seq ?_
  refine WP.region ?_
  refine OPS.val rfl rfl rfl ((by exact Ev.loadO 0 H rfl (agg_run rfl) (size_run rfl) (by rfl) rfl)) ?_
  refine OPS.store 1 _ rfl rfl rfl (size_run rfl) rfl (cA rfl) rfl rfl H rfl (by simp) ?_
  clear H; intro w H; try simp only [List.set_cons_zero, List.set_cons_succ, putL, Nat.zero_add] at H
  refine OPS.val rfl rfl rfl (Ev.asB rfl) ?_
  refine OPS.nil ?_
  refine WP.ret ⟨[_, _], ⟨(by exact resCellA 1 H rfl (agg_run rfl) (size_run rfl) (by rfl) rfl), rfl, trivial⟩, ?_⟩
  refine .inr ⟨x, t, h', [⟨ga, 160, h'.flatMap entCells ++ ([⟨0, 0, 0, 0⟩].flatMap entCells ++ sp)⟩], rfl, rfl, (List.Perm.cons x hp').trans popL_perm, hh', ⟨rows_length entCells_len h', .inr ⟨ga, _, rfl, rfl, by omega, hmx, ?_⟩⟩, H.drop ((List.sublist_cons_self _ _).trans (List.sublist_cons_self _ _))⟩
  rw [← hsl]
  simp only [List.length_append, rows_length entCells_len, hlen', hlc, List.length_cons, List.length_nil]
  omega
/-- Pop, in one form -/
theorem qPop2 (gq cap : Nat) (A : Option Addr) (p : Int) (h : List Ent) (Lo : List Blk) (w0 : World) (S : List Nat) (hO : QOwn A cap h Lo) (hh : HeapOk entLt h) (hl : h.length ≤ 1000000) (H0 : SH w0 S w0 (qLv gq A cap h p Lo)) :
    Calls Try.prog 102 #[.pointer (some ⟨gq, 0, none⟩)] w0 fun e w' =>
      ∃ (x : Ent) (b : Bool) (h' : List Ent) (Lo' : List Blk), e = .returned (popV x b) ∧ (b = false → h = [] ∧ h' = []) ∧ (b = true → (x :: h').Perm h ∧ ∀ z ∈ h, legLt z.secs z.edges x.secs x.edges = false) ∧ HeapOk entLt h' ∧ QOwn A cap h' Lo' ∧ SH w0 S w' (qLv gq A cap h' p Lo') := by
  refine (qPop gq cap A p h Lo w0 S hO hh hl H0).mono fun e w' hr => ?_
  rcases hr with ⟨rfl, he, H⟩ | ⟨x, t, h', Lo', rfl, he, hp, hh', hO', H⟩
  · exact ⟨⟨0, 0, 0, 0⟩, false, [], Lo, he, fun _ => ⟨rfl, rfl⟩, (fun h => by cases h), hh, hO, H⟩
  · refine ⟨x, true, h', Lo', he, (fun h => by cases h), fun _ => ⟨hp, fun z hz => ?_⟩, hh', hO', H⟩
    have := hh.root_le entLtOk z hz
    unfold entLt at this
    simp only [Bool.or_eq_false_iff] at this
    exact this.1
end Go.Proofs.Ytfddebpeiilohaa
