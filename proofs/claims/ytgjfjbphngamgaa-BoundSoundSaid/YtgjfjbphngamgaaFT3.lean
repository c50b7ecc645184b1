/-
  Walks: flow.node, flow.Check, flow.ends.
-/
import Derived.Test.YtgjfjbphngamgaaBase
import Derived.Test.YtgjfjbphngamgaaElems
set_option linter.all false
namespace Go.Proofs.Ytgjfjbphngamgaa.Flo
open Go Go.W Go.RowKit

structure Arc where
  f : Int
  t : Int
  cap : Int
  cost : Int
def arcCells (a : Arc) : List Value := [I a.f, I a.t, I a.cap, I a.cost]
abbrev ArcsAt := RowsAt 4 arcCells
def isNode (n k : Int) : Bool := decide (0 ≤ k) && decide (k < n)

theorem flowNode (n k : Int) (A : Option Addr) (m cap : Nat) (w0 : World) :
    Calls Try.prog 93 #[.agg #[I n, .slice A m cap], I k] w0 fun e w' => e = .returned (.bool (isNode n k)) ∧ Below w0.heap.size w0 w' := by
  have H := SH.refl w0
  refine Calls.ofWP Try.func93 rfl Try.results93 Try.ntmps93 rfl ?_
  refine WP.seq ?_
  refine WP.region ?_
  refine OPS.box rfl rfl rfl rfl (cA rfl) H ?_
  clear H; intro g2 w H
  refine OPS.val rfl rfl rfl (Ev.asB rfl) ?_
  refine OPS.nil ?_
  refine WP.seq ?_
  refine WP.region ?_
  refine OPS.val rfl rfl rfl (Ev.mvI rfl) ?_
  refine OPS.val rfl rfl rfl (Ev.leq rfl rfl) ?_
  refine OPS.val rfl rfl rfl (Ev.mvB rfl) ?_
  refine OPS.gval rfl rfl rfl rfl rfl (fun hg => Ev.mvI (by rfl)) ?_
  refine OPS.gval rfl rfl rfl rfl rfl (fun hg => Ev.fieldAddr (fld_run rfl) (by rfl)) ?_
  refine OPS.gval rfl rfl rfl rfl rfl (fun hg => Ev.load1 (agg_run rfl) (by exact gvE hg rfl) (by exact H.ldL 0 rfl _ rfl)) ?_
  refine OPS.gval rfl rfl rfl rfl rfl (fun hg => Ev.lss (by exact gvE hg rfl) (by exact gvE hg rfl)) ?_
  refine OPS.val rfl rfl rfl ((by exact Ev.pickAnd rfl rfl rfl)) ?_
  refine OPS.val rfl rfl rfl (Ev.asB rfl) ?_
  refine OPS.nil ?_
  refine WP.ret ⟨_, rfl, ?_⟩
  exact ⟨rfl, H.below⟩

def arcBad (n : Int) (a : Arc) : Bool := (!isNode n a.f) || (!isNode n a.t)
def arcRange (a : Arc) : Bool := decide (a.cap < 0) || decide (65536 < a.cap) || decide (a.cost < 0) || decide (65536 < a.cost)
def arcsErr (n : Int) : List Arc → Int
  | [] => 0
  | a :: l => if arcBad n a = true then 7 else if arcRange a = true then 1 else arcsErr n l
def netErr (n : Int) (l : List Arc) : Int := if (decide (n < 1) || decide (64 < n)) = true then 1 else if (512 : Int) < l.length then 8 else arcsErr n l
theorem arcsErr_drop {n : Int} {l : List Arc} : ∀ {j : Nat}, j ≤ l.length → (∀ i (hi : i < l.length), i < j → arcBad n l[i] = false ∧ arcRange l[i] = false) → arcsErr n l = arcsErr n (l.drop j)
  | 0, _, _ => rfl
  | j + 1, hj, h => by
    rw [arcsErr_drop (j := j) (by omega) (fun i hi hij => h i hi (by omega)), List.drop_eq_getElem_cons (show j < l.length by omega), arcsErr]
    have := h j (by omega) (by omega)
    simp [this.1, this.2]

set_option maxHeartbeats 400000 in
theorem flowCheck (n : Int) (A : Option Addr) (l : List Arc) (cap : Nat) (w0 : World) (hz : ArcsAt w0 A l) :
    Calls Try.prog 92 #[.agg #[I n, .slice A l.length cap]] w0 fun e w' => e = .returned (I (netErr n l)) ∧ Below w0.heap.size w0 w' := by
  have H := SH.refl w0
  refine Calls.ofWP Try.func92 rfl Try.results92 Try.ntmps92 rfl ?_
  refine WP.seq ?_
  refine WP.region ?_
  refine OPS.box rfl rfl rfl rfl (cA rfl) H ?_
  clear H; intro g1 w H
  refine OPS.val rfl rfl rfl (Ev.asI rfl) ?_
  refine OPS.nil ?_
  refine WP.seq ?_
  refine WP.seq ?_
  refine WP.region ?_
  refine OPS.val rfl rfl rfl (Ev.fieldAddr (fld_run rfl) rfl) ?_
  refine OPS.val rfl rfl rfl (Ev.load1 (agg_run rfl) rfl (by exact H.ldL 0 rfl _ rfl)) ?_
  refine OPS.val rfl rfl rfl (Ev.lss rfl rfl) ?_
  refine OPS.val rfl rfl rfl (Ev.mvB rfl) ?_
  refine OPS.gval rfl rfl rfl rfl rfl (fun hg => Ev.fieldAddr (fld_run rfl) (by rfl)) ?_
  refine OPS.gval rfl rfl rfl rfl rfl (fun hg => Ev.load1 (agg_run rfl) (by exact gvE hg rfl) (by exact H.ldL 0 rfl _ rfl)) ?_
  refine OPS.gval rfl rfl rfl rfl rfl (fun hg => Ev.gtr (by exact gvE hg rfl) (by rfl)) ?_
  refine OPS.val rfl rfl rfl ((by exact Ev.pickOr rfl rfl rfl)) ?_
  refine OPS.nil ?_
  refine WP.cond rfl (fun hc1 => ?_) (fun hc1 => ?_)
  · refine WP.seq ?_
    refine WP.region ?_
    refine OPS.val rfl rfl rfl (Ev.asI rfl) ?_
    refine OPS.nil ?_
    refine WP.ret ⟨_, rfl, ?_⟩
    exact ⟨by rw [netErr, if_pos hc1]; rfl, H.below⟩
  refine WP.skip ?_
  refine WP.seq ?_
  refine WP.seq ?_
  refine WP.region ?_
  refine OPS.val rfl rfl rfl (Ev.fieldAddr (fld_run rfl) rfl) ?_
  refine OPS.val rfl rfl rfl (Ev.load1 (agg_run rfl) rfl (by exact H.ldL 0 rfl _ rfl)) ?_
  refine OPS.val rfl rfl rfl (Ev.len (el_run rfl) rfl) ?_
  refine OPS.val rfl rfl rfl (Ev.gtr rfl rfl) ?_
  refine OPS.nil ?_
  refine WP.cond rfl (fun hc3 => ?_) (fun hc3 => ?_)
  · refine WP.seq ?_
    refine WP.region ?_
    refine OPS.val rfl rfl rfl (Ev.asI rfl) ?_
    refine OPS.nil ?_
    refine WP.ret ⟨_, rfl, ?_⟩
    exact ⟨by rw [netErr, if_neg (by simp [hc1]), if_pos (by simpa using hc3)]; rfl, H.below⟩
  have hl : l.length ≤ 512 := by simp at hc3; omega
  have e0 : netErr n l = arcsErr n l := by rw [netErr, if_neg (by simp [hc1]), if_neg (by simpa using hc3)]
  refine WP.skip ?_
  refine WP.seq ?_
  refine WP.seq ?_
  refine WP.region ?_
  refine OPS.val rfl rfl rfl (Ev.fieldAddr (fld_run rfl) rfl) ?_
  refine OPS.val rfl rfl rfl (Ev.load1 (agg_run rfl) rfl (by exact H.ldL 0 rfl _ rfl)) ?_
  refine OPS.val rfl rfl rfl (Ev.len (el_run rfl) rfl) ?_
  refine OPS.val rfl rfl rfl (Ev.mvI rfl) ?_
  refine OPS.nil ?_
  refine WP.block ?_
  refine WP.loop [2, 4, 20, 21, 22, 23, 24, 25, 26, 27, 28, 29, 30, 31, 32, 33, 34, 35, 36, 37, 38, 39, 40, 41, 42, 43, 44, 45, 46, 47, 48, 49, 50, 51, 52, 53, 54] (fun k e w' => ∃ j : Nat, j + k = l.length ∧ e 20 = .int .i64 j ∧ SH w0 [] w' [⟨g1, 76, [I n, .slice A l.length cap]⟩] ∧ ∀ i (hi : i < l.length), i < j → arcBad n l[i] = false ∧ arcRange l[i] = false) (l.length) (⟨0, by omega, rfl, H, fun i _ hi => absurd hi (by omega)⟩) ?_
  clear H
  rintro k u w ⟨j, hk, h20, H, hall⟩
  refine WP.know (t := 20) h20 ?_
  refine WP.seq ?_
  refine WP.region ?_
  refine OPS.val rfl rfl rfl (Ev.lss rfl rfl) ?_
  refine OPS.nil ?_
  refine WP.seq ?_
  refine WP.cond rfl (fun hc6 => ?_) (fun hc6 => ?_)
  · have hlt : j < l.length := by simpa using hc6
    obtain ⟨b, o, rfl, hc⟩ := hz j hlt
    have hc' := cellsAt_sh H hc
    refine WP.skip ?_
    refine WP.seq ?_
    refine WP.block ?_
    refine WP.seq ?_
    refine WP.region ?_
    refine OPS.val rfl rfl rfl ((by exact Ev.indexAddr (el_run rfl) (size_run rfl) rfl rfl rfl (by omega))) ?_
    refine OPS.val rfl rfl rfl ((by (change Ev _ _ _ _ (Op.load 96 (Operand.tmp 22)) _; exact Ev.loadN (arcCells l[j]) (agg_run rfl) (size_run rfl) rfl hc'))) ?_
    refine OPS.alloc rfl rfl rfl rfl (zero_run rfl) rfl H ?_
    clear H; intro g4 w H
    refine OPS.store 0 _ rfl rfl rfl (size_run rfl) rfl (cA rfl) rfl rfl H rfl (by simp) ?_
    clear H; intro w H; try simp only [List.set_cons_zero, List.set_cons_succ, putL, Nat.zero_add] at H
    refine OPS.nil ?_
    refine WP.seq ?_
    refine WP.seq ?_
    refine WP.region ?_
    refine OPS.val rfl rfl rfl ((by exact Ev.loadO 1 H rfl (agg_run rfl) (size_run rfl) (by rfl) rfl)) ?_
    refine OPS.val rfl rfl rfl (Ev.fieldAddr (fld_run rfl) rfl) ?_
    refine OPS.val rfl rfl rfl (Ev.load1 (agg_run rfl) rfl (by exact H.ldL 0 rfl _ rfl)) ?_
    refine OPS.call (d := some 27) rfl rfl rfl (EvC.func (fun_run rfl)) (flowNode n l[j].f _ _ _ _) ?_
    rintro _ w ⟨rfl, hb⟩
    refine ⟨_, rfl, ?_⟩
    replace H := H.toBelow hb; clear hb
    refine OPS.val rfl rfl rfl (Ev.not rfl) ?_
    refine OPS.val rfl rfl rfl (Ev.mvB rfl) ?_
    refine OPS.gval rfl rfl rfl rfl rfl (fun hg => (by exact Ev.loadO 1 H rfl (agg_run rfl) (size_run rfl) (by rfl) rfl)) ?_
    refine OPS.gval rfl rfl rfl rfl rfl (fun hg => Ev.fieldAddr (fld_run rfl) (by rfl)) ?_
    refine OPS.gval rfl rfl rfl rfl rfl (fun hg => Ev.load1 (agg_run rfl) (by exact gvE hg rfl) (by exact H.ldL 0 rfl _ rfl)) ?_
    refine OPS.gcall0 (f := 93) (flowNode n l[j].t _ _ _ _) (fun _ _ h => h) rfl rfl rfl rfl rfl (fun hg => EvC.conv (EvC.func (fun_run rfl)) (l2 (by exact gvE hg rfl) (by exact gvE hg rfl))) ?_
    intro w hbc; replace H := H.toBelow hbc
    refine OPS.gval rfl rfl rfl rfl rfl (fun hg => Ev.not (by exact gvE hg rfl)) ?_
    refine OPS.val rfl rfl rfl ((by exact Ev.pickOr rfl rfl rfl)) ?_
    refine OPS.nil ?_
    refine WP.cond rfl (fun hc8 => ?_) (fun hc8 => ?_)
    · refine WP.seq ?_
      refine WP.region ?_
      refine OPS.val rfl rfl rfl (Ev.asI rfl) ?_
      refine OPS.nil ?_
      refine WP.ret ⟨_, rfl, ?_⟩
      exact ⟨by rw [e0, arcsErr_drop (by omega) hall, List.drop_eq_getElem_cons hlt, arcsErr, if_pos (show arcBad n l[j] = true from hc8)]; rfl, H.below⟩
    refine WP.skip ?_
    refine WP.seq ?_
    refine WP.region ?_
    refine OPS.val rfl rfl rfl (Ev.fieldAddr (fld_run rfl) rfl) ?_
    refine OPS.val rfl rfl rfl (Ev.load1 (agg_run rfl) rfl (by exact H.ldL 0 rfl _ rfl)) ?_
    refine OPS.val rfl rfl rfl (Ev.lss rfl rfl) ?_
    refine OPS.val rfl rfl rfl (Ev.mvB rfl) ?_
    refine OPS.gval rfl rfl rfl rfl rfl (fun hg => Ev.fieldAddr (fld_run rfl) (by rfl)) ?_
    refine OPS.gval rfl rfl rfl rfl rfl (fun hg => Ev.load1 (agg_run rfl) (by exact gvE hg rfl) (by exact H.ldL 0 rfl _ rfl)) ?_
    refine OPS.gval rfl rfl rfl rfl rfl (fun hg => Ev.gtr (by exact gvE hg rfl) (by rfl)) ?_
    refine OPS.val rfl rfl rfl ((by exact Ev.pickOr rfl rfl rfl)) ?_
    refine OPS.val rfl rfl rfl (Ev.mvB rfl) ?_
    refine OPS.gval rfl rfl rfl rfl rfl (fun hg => Ev.fieldAddr (fld_run rfl) (by rfl)) ?_
    refine OPS.gval rfl rfl rfl rfl rfl (fun hg => Ev.load1 (agg_run rfl) (by exact gvE hg rfl) (by exact H.ldL 0 rfl _ rfl)) ?_
    refine OPS.gval rfl rfl rfl rfl rfl (fun hg => Ev.lss (by exact gvE hg rfl) (by rfl)) ?_
    refine OPS.val rfl rfl rfl ((by exact Ev.pickOr rfl rfl rfl)) ?_
    refine OPS.val rfl rfl rfl (Ev.mvB rfl) ?_
    refine OPS.gval rfl rfl rfl rfl rfl (fun hg => Ev.fieldAddr (fld_run rfl) (by rfl)) ?_
    refine OPS.gval rfl rfl rfl rfl rfl (fun hg => Ev.load1 (agg_run rfl) (by exact gvE hg rfl) (by exact H.ldL 0 rfl _ rfl)) ?_
    refine OPS.gval rfl rfl rfl rfl rfl (fun hg => Ev.gtr (by exact gvE hg rfl) (by rfl)) ?_
    refine OPS.val rfl rfl rfl ((by exact Ev.pickOr rfl rfl rfl)) ?_
    refine OPS.nil ?_
    refine WP.cond rfl (fun hc10 => ?_) (fun hc10 => ?_)
    · refine WP.seq ?_
      refine WP.region ?_
      refine OPS.val rfl rfl rfl (Ev.asI rfl) ?_
      refine OPS.nil ?_
      refine WP.ret ⟨_, rfl, ?_⟩
      exact ⟨by rw [e0, arcsErr_drop (by omega) hall, List.drop_eq_getElem_cons hlt, arcsErr, if_neg (by rw [show arcBad n l[j] = false from hc8]; simp), if_pos (show arcRange l[j] = true from hc10)]; rfl, H.below⟩
    refine WP.skip ?_
    refine WP.region ?_
    refine OPS.val rfl rfl rfl (Ev.add rfl rfl (by unfold fits; omega)) ?_
    refine OPS.val rfl rfl rfl (Ev.mvI rfl) ?_
    refine OPS.nil ?_
    refine ⟨(by repeat (first | exact Agree.refl _ _ | exact Agree.mix _ _ _ | refine Agree.upd rfl ?_ | refine Agree.mix2 rfl ?_)), k - 1, by omega, j + 1, by omega, rfl, H.drop (by simp), fun i hi hij => ?_⟩
    rcases Nat.lt_succ_iff_lt_or_eq.1 hij with h | rfl
    · exact hall i hi h
    · exact ⟨hc8, hc10⟩
  refine WP.exit ?_
  refine XB.hit ?_
  refine WP.seq ?_
  refine WP.region ?_
  refine OPS.val rfl rfl rfl (Ev.asI rfl) ?_
  refine OPS.nil ?_
  refine WP.ret ⟨_, rfl, ?_⟩
  have : j = l.length := by simp at hc6; omega
  subst this
  exact ⟨by rw [e0, arcsErr_drop (by omega) hall]; simp [arcsErr]; rfl, H.below⟩

def endsErr (n : Int) (l : List Arc) (f t : Int) : Int :=
  if netErr n l ≠ 0 then netErr n l else if ((!isNode n f) || (!isNode n t)) = true then 7 else if f = t then 1 else 0
theorem flowEnds (n f t : Int) (A : Option Addr) (l : List Arc) (cap : Nat) (w0 : World) (hz : ArcsAt w0 A l) :
    Calls Try.prog 75 #[.agg #[I n, .slice A l.length cap], I f, I t] w0 fun e w' => e = .returned (I (endsErr n l f t)) ∧ Below w0.heap.size w0 w' := by
  have H := SH.refl w0
  refine Calls.ofWP Try.func75 rfl Try.results75 Try.ntmps75 rfl ?_
  refine WP.seq ?_
  refine WP.region ?_
  refine OPS.box rfl rfl rfl rfl (cA rfl) H ?_
  clear H; intro g3 w H
  refine OPS.val rfl rfl rfl (Ev.asI rfl) ?_
  refine OPS.nil ?_
  refine WP.seq ?_
  refine WP.seq ?_
  refine WP.region ?_
  refine OPS.val rfl rfl rfl ((by exact Ev.loadO 0 H rfl (agg_run rfl) (size_run rfl) (by rfl) rfl)) ?_
  refine OPS.call (d := some 9) rfl rfl rfl (EvC.func (fun_run rfl)) (flowCheck n A l cap w (hz.sh H)) ?_
  rintro _ w ⟨rfl, hb⟩
  refine ⟨_, rfl, ?_⟩
  replace H := H.toBelow hb; clear hb
  refine OPS.val rfl rfl rfl (Ev.asI rfl) ?_
  refine OPS.nil ?_
  refine WP.block ?_
  refine WP.seq ?_
  refine WP.region ?_
  refine OPS.val rfl rfl rfl (Ev.mvI rfl) ?_
  refine OPS.val rfl rfl rfl (Ev.neq rfl rfl) ?_
  refine OPS.val rfl rfl rfl (Ev.asB rfl) ?_
  refine OPS.nil ?_
  refine WP.cond rfl (fun hc2 => ?_) (fun hc2 => ?_)
  · refine WP.seq ?_
    refine WP.region ?_
    refine OPS.val rfl rfl rfl (Ev.mvI rfl) ?_
    refine OPS.val rfl rfl rfl (Ev.asI rfl) ?_
    refine OPS.nil ?_
    refine WP.ret ⟨_, rfl, ?_⟩
    have h : netErr n l ≠ 0 := by simpa using hc2
    exact ⟨by rw [endsErr, if_pos h]; rfl, H.below⟩
  have h0 : netErr n l = 0 := by simpa using hc2
  refine WP.seq ?_
  refine WP.region ?_
  refine OPS.val rfl rfl rfl ((by exact Ev.loadO 0 H rfl (agg_run rfl) (size_run rfl) (by rfl) rfl)) ?_
  refine OPS.val rfl rfl rfl (Ev.mvI rfl) ?_
  refine OPS.call (d := some 17) rfl rfl rfl (EvC.func (fun_run rfl)) (flowNode n f _ _ _ _) ?_
  rintro _ w ⟨rfl, hb⟩
  refine ⟨_, rfl, ?_⟩
  replace H := H.toBelow hb; clear hb
  refine OPS.val rfl rfl rfl (Ev.not rfl) ?_
  refine OPS.val rfl rfl rfl (Ev.mvB rfl) ?_
  refine OPS.gval rfl rfl rfl rfl rfl (fun hg => (by exact Ev.loadO 0 H rfl (agg_run rfl) (size_run rfl) (by rfl) rfl)) ?_
  refine OPS.gval rfl rfl rfl rfl rfl (fun hg => Ev.mvI (by rfl)) ?_
  refine OPS.gcall0 (f := 93) (flowNode n t _ _ _ _) (fun _ _ h => h) rfl rfl rfl rfl rfl (fun hg => EvC.conv (EvC.func (fun_run rfl)) (l2 (by exact gvE hg rfl) (by exact gvE hg rfl))) ?_
  intro w hbc; replace H := H.toBelow hbc
  refine OPS.gval rfl rfl rfl rfl rfl (fun hg => Ev.not (by exact gvE hg rfl)) ?_
  refine OPS.val rfl rfl rfl ((by exact Ev.pickOr rfl rfl rfl)) ?_
  refine OPS.val rfl rfl rfl (Ev.asB rfl) ?_
  refine OPS.nil ?_
  refine WP.cond rfl (fun hc4 => ?_) (fun hc4 => ?_)
  · refine WP.seq ?_
    refine WP.region ?_
    refine OPS.val rfl rfl rfl (Ev.asI rfl) ?_
    refine OPS.nil ?_
    refine WP.ret ⟨_, rfl, ?_⟩
    exact ⟨by rw [endsErr, if_neg (by simp [h0]), if_pos hc4]; rfl, H.below⟩
  refine WP.seq ?_
  refine WP.region ?_
  refine OPS.val rfl rfl rfl (Ev.mvI rfl) ?_
  refine OPS.val rfl rfl rfl (Ev.mvI rfl) ?_
  refine OPS.val rfl rfl rfl (Ev.eql rfl rfl) ?_
  refine OPS.val rfl rfl rfl (Ev.asB rfl) ?_
  refine OPS.nil ?_
  refine WP.cond rfl (fun hc6 => ?_) (fun hc6 => ?_)
  · refine WP.seq ?_
    refine WP.region ?_
    refine OPS.val rfl rfl rfl (Ev.asI rfl) ?_
    refine OPS.nil ?_
    refine WP.ret ⟨_, rfl, ?_⟩
    exact ⟨by rw [endsErr, if_neg (by simp [h0]), if_neg (by simp [hc4]), if_pos (by simpa using hc6)]; rfl, H.below⟩
  refine WP.skip ?_
  refine WP.seq ?_
  refine WP.region ?_
  refine OPS.val rfl rfl rfl (Ev.asI rfl) ?_
  refine OPS.nil ?_
  refine WP.ret ⟨_, rfl, ?_⟩
  exact ⟨by rw [endsErr, if_neg (by simp [h0]), if_neg (by simp [hc4]), if_neg (by simpa using hc6)]; rfl, H.below⟩
end Go.Proofs.Ytgjfjbphngamgaa.Flo

/-
  Walks: residue.each (whatever function it calls), the function that reach hands to it, reach.
-/
set_option linter.all false
namespace Go.Proofs.Ytgjfjbphngamgaa.Flo
open Go Go.W Go.RowKit

instance : Inhabited Arc := ⟨⟨0, 0, 0, 0⟩⟩
abbrev VisF (σ : Type) := σ → Int → Int → Nat → Int → Int → Bool → σ
def eachF {σ : Type} (vis : VisF σ) (i : Nat) (a : Arc) (x : Int) (s : σ) : σ := if x < a.cap then vis s a.f a.t i (a.cap - x) a.cost true else s
def eachB {σ : Type} (vis : VisF σ) (i : Nat) (a : Arc) (x : Int) (s : σ) : σ := if 0 < x then vis s a.t a.f i x (-a.cost) false else s
/-- what 'each' does to a state: the first k arcs -/
def eachM {σ : Type} (vis : VisF σ) (l : List Arc) (on : List Int) : Nat → σ → σ
  | 0, s => s
  | k + 1, s => eachB vis k (l.getD k default) (on.getD k 0) (eachF vis k (l.getD k default) (on.getD k 0) (eachM vis l on k s))
theorem eachM_succ {σ : Type} (vis : VisF σ) (l : List Arc) (on : List Int) (k : Nat) (s : σ) (h : k < l.length) (h2 : k < on.length) :
    eachM vis l on (k + 1) s = eachB vis k l[k] on[k] (eachF vis k l[k] on[k] (eachM vis l on k s)) := by
  rw [eachM]; simp [h, h2]

set_option maxHeartbeats 1000000 in
theorem flowEach {σ : Type} (vis : VisF σ) (Lv : σ → List Blk) (gs : List Nat) (hgs : ∀ s, (Lv s).map (·.g) = gs) (Inv : σ → Prop) (fv : Nat) (caps : List Value)
    (n : Int) (A B : Option Addr) (l : List Arc) (on : List Int) (cap cap2 : Nat) (s0 : σ) (w0 : World)
    (hfun : funT fv = true)
    (hz : ArcsAt w0 A l) (hA : l ≠ [] → Off A gs) (ho : IntsAt w0 B on) (hB : on ≠ [] → Off B gs) (hlen : on.length = l.length) (hl : l.length ≤ 4096)
    (hcap : ∀ i (h : i < l.length), -1000000 ≤ l[i].cap ∧ l[i].cap ≤ 1000000 ∧ -1000000 ≤ l[i].cost ∧ l[i].cost ≤ 1000000) (hon : ∀ i (h : i < on.length), -1000000000 ≤ on[i] ∧ on[i] ≤ 1000000000)
    (hvF : ∀ i (h : i < l.length) (h2 : i < on.length) s w, Inv s → on[i] < l[i].cap → SH w gs w (Lv s) → Calls Try.prog fv ([I l[i].f, I l[i].t, I i, I (l[i].cap - on[i]), I l[i].cost, .bool true] ++ caps).toArray w fun e w' => e = .returned (.tuple #[]) ∧ SH w gs w' (Lv (vis s l[i].f l[i].t i (l[i].cap - on[i]) l[i].cost true)))
    (hiF : ∀ i (h : i < l.length) (h2 : i < on.length) s, Inv s → on[i] < l[i].cap → Inv (vis s l[i].f l[i].t i (l[i].cap - on[i]) l[i].cost true))
    (hvB : ∀ i (h : i < l.length) (h2 : i < on.length) s w, Inv s → 0 < on[i] → SH w gs w (Lv s) → Calls Try.prog fv ([I l[i].t, I l[i].f, I i, I on[i], I (-l[i].cost), .bool false] ++ caps).toArray w fun e w' => e = .returned (.tuple #[]) ∧ SH w gs w' (Lv (vis s l[i].t l[i].f i on[i] (-l[i].cost) false)))
    (hiB : ∀ i (h : i < l.length) (h2 : i < on.length) s, Inv s → 0 < on[i] → Inv (vis s l[i].t l[i].f i on[i] (-l[i].cost) false))
    (hs0 : Inv s0) (H0 : SH w0 gs w0 (Lv s0)) :
    Calls Try.prog 81 #[.agg #[I n, .slice A l.length cap, .slice B on.length cap2], .func (.func fv) #[] caps.toArray] w0 fun e w' => e = .returned (.tuple #[]) ∧ SH w0 gs w' (Lv (eachM vis l on l.length s0)) := by
  have H := H0
  refine Calls.ofWP Try.func81 rfl Try.results81 Try.ntmps81 rfl ?_
  refine WP.seq ?_
  refine WP.region ?_
  refine OPS.box rfl rfl rfl rfl (cA rfl) H ?_
  clear H; intro g2 w H
  refine OPS.nil ?_
  refine WP.seq ?_
  refine WP.region ?_
  refine OPS.val rfl rfl rfl (Ev.fieldAddr (fld_run rfl) rfl) ?_
  refine OPS.val rfl rfl rfl (Ev.fieldAddr (fld_run rfl) rfl) ?_
  refine OPS.val rfl rfl rfl (Ev.load1 (agg_run rfl) rfl (by exact H.ldL 0 rfl _ rfl)) ?_
  refine OPS.val rfl rfl rfl (Ev.len (el_run rfl) rfl) ?_
  refine OPS.val rfl rfl rfl (Ev.mvI rfl) ?_
  refine OPS.nil ?_
  refine WP.block ?_
  refine WP.loop [4, 5, 10, 11, 12, 13, 14, 15, 16, 17, 18, 19, 20, 21, 22, 23, 24, 25, 26, 27, 28, 29, 30, 31, 32, 33, 34, 35, 36, 37, 38, 39, 40, 41, 42, 43, 44, 45, 46, 47, 48, 49, 50, 51, 52, 53, 54, 55, 56, 57, 58, 59, 60, 61] (fun k e w' => ∃ j : Nat, j + k = l.length ∧ e 10 = .int .i64 j ∧ SH w0 gs w' ([⟨g2, 111, [I n, .slice A l.length cap, .slice B on.length cap2]⟩] ++ Lv (eachM vis l on j s0)) ∧ Inv (eachM vis l on j s0)) (l.length) (⟨0, by omega, rfl, H, hs0⟩) ?_
  clear H
  rintro k u w ⟨j, hk, h10, H, hi⟩
  refine WP.know (t := 10) h10 ?_
  generalize hs : eachM vis l on j s0 = s at H hi
  refine WP.seq ?_
  refine WP.region ?_
  refine OPS.val rfl rfl rfl (Ev.lss rfl rfl) ?_
  refine OPS.nil ?_
  refine WP.seq ?_
  refine WP.cond rfl (fun hc2 => ?_) (fun hc2 => ?_)
  · have hlt : j < l.length := by simpa using hc2
    have hlt2 : j < on.length := by omega
    obtain ⟨b, o, rfl, hc⟩ := hz j hlt
    obtain ⟨b2, o2, rfl, hx⟩ := ho j hlt2
    have hbS : b ∉ gs := hA (List.ne_nil_of_length_pos (by omega)) b o rfl
    have hbS2 : b2 ∉ gs := hB (List.ne_nil_of_length_pos (by omega)) b2 o2 rfl
    have hc' := cellsAt_shS H hbS hc
    have hcb := hcap j hlt
    have hob := hon j hlt2
    refine WP.skip ?_
    refine WP.seq ?_
    refine WP.block ?_
    refine WP.seq ?_
    refine WP.region ?_
    refine OPS.val rfl rfl rfl (Ev.mvI rfl) ?_
    refine OPS.val rfl rfl rfl ((by exact Ev.indexAddr (el_run rfl) (size_run rfl) rfl rfl rfl (by omega))) ?_
    refine OPS.val rfl rfl rfl ((by (change Ev _ _ _ _ (Op.load 96 (Operand.tmp 13)) _; exact Ev.loadN (arcCells l[j]) (agg_run rfl) (size_run rfl) rfl hc'))) ?_
    refine OPS.alloc rfl rfl rfl rfl (zero_run rfl) rfl H ?_
    clear H; intro g5 w H
    refine OPS.val rfl rfl rfl (Ev.asI rfl) ?_
    refine OPS.store 0 _ rfl rfl rfl (size_run rfl) rfl (cA rfl) rfl rfl H rfl (by simp) ?_
    clear H; intro w H; try simp only [List.set_cons_zero, List.set_cons_succ, putL, Nat.zero_add] at H
    refine OPS.nil ?_
    refine WP.seq ?_
    refine WP.seq ?_
    refine WP.rstill mixed (by kernel_rfl) H ?_
    clear H; intro w hbw4 H
    refine OPS.val rfl rfl rfl (Ev.fieldAddr (fld_run rfl) rfl) ?_
    refine OPS.val rfl rfl rfl (Ev.load1 (agg_run rfl) rfl (by exact H.ldL 1 rfl _ rfl)) ?_
    refine OPS.val rfl rfl rfl (Ev.mvI rfl) ?_
    refine OPS.val rfl rfl rfl ((by exact Ev.indexAddr1 (el_run rfl) (size_run rfl) rfl rfl rfl (by omega))) ?_
    refine OPS.val rfl rfl rfl (Ev.load1 (agg_run rfl) rfl (by exact H.ldS (by assumption) (by assumption))) ?_
    refine OPS.val rfl rfl rfl (Ev.fieldAddr (fld_run rfl) rfl) ?_
    refine OPS.val rfl rfl rfl (Ev.load1 (agg_run rfl) rfl (by exact H.ldL 0 rfl _ rfl)) ?_
    refine OPS.val rfl rfl rfl (Ev.lss rfl rfl) ?_
    refine OPS.nil_s ?_
    refine WP.cond rfl (fun hc4 => ?_) (fun hc4 => ?_)
    · refine WP.rtail 16 mixed (by kernel_rfl) H ?_
      clear H; intro w hbw5 H
      refine OPS.val rfl rfl rfl (Ev.mvF rfl) ?_
      refine OPS.val rfl rfl rfl (Ev.fieldAddr (fld_run rfl) rfl) ?_
      refine OPS.val rfl rfl rfl (Ev.load1 (agg_run rfl) rfl (by exact H.ldL 0 rfl _ rfl)) ?_
      refine OPS.val rfl rfl rfl (Ev.fieldAddr (fld_run rfl) rfl) ?_
      refine OPS.val rfl rfl rfl (Ev.load1 (agg_run rfl) rfl (by exact H.ldL 0 rfl _ rfl)) ?_
      refine OPS.val rfl rfl rfl (Ev.mvI rfl) ?_
      refine OPS.val rfl rfl rfl (Ev.fieldAddr (fld_run rfl) rfl) ?_
      refine OPS.val rfl rfl rfl (Ev.load1 (agg_run rfl) rfl (by exact H.ldL 0 rfl _ rfl)) ?_
      refine OPS.val rfl rfl rfl (Ev.fieldAddr (fld_run rfl) rfl) ?_
      refine OPS.val rfl rfl rfl (Ev.load1 (agg_run rfl) rfl (by exact H.ldL 1 rfl _ rfl)) ?_
      refine OPS.val rfl rfl rfl (Ev.mvI rfl) ?_
      refine OPS.val rfl rfl rfl ((by exact Ev.indexAddr1 (el_run rfl) (size_run rfl) rfl rfl rfl (by omega))) ?_
      refine OPS.val rfl rfl rfl (Ev.load1 (agg_run rfl) rfl (by exact H.ldS (by assumption) (by assumption))) ?_
      refine OPS.val rfl rfl rfl (Ev.sub rfl rfl (by unfold fits; omega)) ?_
      refine OPS.val rfl rfl rfl (Ev.fieldAddr (fld_run rfl) rfl) ?_
      refine OPS.val rfl rfl rfl (Ev.load1 (agg_run rfl) rfl (by exact H.ldL 0 rfl _ rfl)) ?_
      refine OPS.nil_s ?_
      refine OPS.call (d := some 39) rfl rfl rfl (EvC.clos rfl (fun_run (by assumption))) (hvF j hlt hlt2 s _ hi (by simpa using hc4) (by rw [← hgs s]; exact H.restart ((List.sublist_cons_self _ _).trans (List.sublist_cons_self _ _)))) ?_
      rintro _ w ⟨rfl, Hc⟩
      refine ⟨_, rfl, ?_⟩
      replace H := SH.call (L1 := [⟨g5, 96, arcCells l[j]⟩, ⟨g2, 111, [I n, .slice (some ⟨b, o, none⟩) l.length cap, .slice (some ⟨b2, o2, none⟩) on.length cap2]⟩]) H (by rw [hgs s]; exact Hc)
      clear Hc
      replace hi := hiF j hlt hlt2 s hi (by simpa using hc4)
      have hs1 : eachF vis j l[j] on[j] s = vis s l[j].f l[j].t j (l[j].cap - on[j]) l[j].cost true := if_pos (by simpa using hc4)
      generalize vis s l[j].f l[j].t j (l[j].cap - on[j]) l[j].cost true = s1 at H hi hs1
      refine OPS.nil ?_
      refine WP.seq ?_
      refine WP.region ?_
      refine OPS.val rfl rfl rfl (Ev.fieldAddr (fld_run rfl) rfl) ?_
      refine OPS.val rfl rfl rfl (Ev.load1 (agg_run rfl) rfl (by exact H.ldL 1 rfl _ rfl)) ?_
      refine OPS.val rfl rfl rfl (Ev.mvI rfl) ?_
      refine OPS.val rfl rfl rfl ((by exact Ev.indexAddr1 (el_run rfl) (size_run rfl) rfl rfl rfl (by omega))) ?_
      refine OPS.val rfl rfl rfl (Ev.load1 (agg_run rfl) rfl (by exact H.ldS (by assumption) (by assumption))) ?_
      refine OPS.val rfl rfl rfl (Ev.gtr rfl rfl) ?_
      refine OPS.nil ?_
      refine WP.cond rfl (fun hc6 => ?_) (fun hc6 => ?_)
      · refine WP.rtail 14 mixed (by kernel_rfl) H ?_
        clear H; intro w hbw7 H
        refine OPS.val rfl rfl rfl (Ev.mvF rfl) ?_
        refine OPS.val rfl rfl rfl (Ev.fieldAddr (fld_run rfl) rfl) ?_
        refine OPS.val rfl rfl rfl (Ev.load1 (agg_run rfl) rfl (by exact H.ldL 0 rfl _ rfl)) ?_
        refine OPS.val rfl rfl rfl (Ev.fieldAddr (fld_run rfl) rfl) ?_
        refine OPS.val rfl rfl rfl (Ev.load1 (agg_run rfl) rfl (by exact H.ldL 0 rfl _ rfl)) ?_
        refine OPS.val rfl rfl rfl (Ev.mvI rfl) ?_
        refine OPS.val rfl rfl rfl (Ev.fieldAddr (fld_run rfl) rfl) ?_
        refine OPS.val rfl rfl rfl (Ev.load1 (agg_run rfl) rfl (by exact H.ldL 1 rfl _ rfl)) ?_
        refine OPS.val rfl rfl rfl (Ev.mvI rfl) ?_
        refine OPS.val rfl rfl rfl ((by exact Ev.indexAddr1 (el_run rfl) (size_run rfl) rfl rfl rfl (by omega))) ?_
        refine OPS.val rfl rfl rfl (Ev.load1 (agg_run rfl) rfl (by exact H.ldS (by assumption) (by assumption))) ?_
        refine OPS.val rfl rfl rfl (Ev.fieldAddr (fld_run rfl) rfl) ?_
        refine OPS.val rfl rfl rfl (Ev.load1 (agg_run rfl) rfl (by exact H.ldL 0 rfl _ rfl)) ?_
        refine OPS.val rfl rfl rfl (Ev.neg rfl (by unfold fits; omega)) ?_
        refine OPS.nil_s ?_
        refine OPS.call (d := some 60) rfl rfl rfl (EvC.clos rfl (fun_run (by assumption))) (hvB j hlt hlt2 s1 _ hi (by simpa using hc6) (by rw [← hgs s1]; exact H.restart ((List.sublist_cons_self _ _).trans (List.sublist_cons_self _ _)))) ?_
        rintro _ w ⟨rfl, Hc⟩
        refine ⟨_, rfl, ?_⟩
        replace H := SH.call (L1 := [⟨g5, 96, arcCells l[j]⟩, ⟨g2, 111, [I n, .slice (some ⟨b, o, none⟩) l.length cap, .slice (some ⟨b2, o2, none⟩) on.length cap2]⟩]) H (by rw [hgs s1]; exact Hc)
        clear Hc
        replace hi := hiB j hlt hlt2 s1 hi (by simpa using hc6)
        have hs2 : eachB vis j l[j] on[j] s1 = vis s1 l[j].t l[j].f j on[j] (-l[j].cost) false := if_pos (by simpa using hc6)
        refine OPS.nil ?_
        refine WP.region ?_
        refine OPS.val rfl rfl rfl (Ev.add rfl rfl (by unfold fits; omega)) ?_
        refine OPS.val rfl rfl rfl (Ev.mvI rfl) ?_
        refine OPS.nil ?_
        have hfin : eachM vis l on (j + 1) s0 = eachB vis j l[j] on[j] s1 := by
          rw [eachM_succ vis l on j s0 hlt hlt2, hs]
          rw [hs1]
        refine ⟨(by repeat (first | exact Agree.refl _ _ | exact Agree.mix _ _ _ | refine Agree.upd rfl ?_ | refine Agree.mix2 rfl ?_)), k - 1, by omega, j + 1, by omega, rfl, ?_, ?_⟩
        · rw [hfin, hs2]; exact H.drop (List.sublist_cons_self _ _)
        · rw [hfin, hs2]; exact hi
      have hs2 : eachB vis j l[j] on[j] s1 = s1 := if_neg (by simpa using hc6)
      refine WP.skip ?_
      refine WP.region ?_
      refine OPS.val rfl rfl rfl (Ev.add rfl rfl (by unfold fits; omega)) ?_
      refine OPS.val rfl rfl rfl (Ev.mvI rfl) ?_
      refine OPS.nil ?_
      have hfin : eachM vis l on (j + 1) s0 = eachB vis j l[j] on[j] s1 := by
        rw [eachM_succ vis l on j s0 hlt hlt2, hs]
        rw [hs1]
      refine ⟨(by repeat (first | exact Agree.refl _ _ | exact Agree.mix _ _ _ | refine Agree.upd rfl ?_ | refine Agree.mix2 rfl ?_)), k - 1, by omega, j + 1, by omega, rfl, ?_, ?_⟩
      · rw [hfin, hs2]; exact H.drop (List.sublist_cons_self _ _)
      · rw [hfin, hs2]; exact hi
    have hs1 : eachF vis j l[j] on[j] s = s := if_neg (by simpa using hc4)
    generalize hss : s = s1 at H hi
    rw [hss] at hs1
    refine WP.skip ?_
    refine WP.seq ?_
    refine WP.region ?_
    refine OPS.val rfl rfl rfl (Ev.fieldAddr (fld_run rfl) rfl) ?_
    refine OPS.val rfl rfl rfl (Ev.load1 (agg_run rfl) rfl (by exact H.ldL 1 rfl _ rfl)) ?_
    refine OPS.val rfl rfl rfl (Ev.mvI rfl) ?_
    refine OPS.val rfl rfl rfl ((by exact Ev.indexAddr1 (el_run rfl) (size_run rfl) rfl rfl rfl (by omega))) ?_
    refine OPS.val rfl rfl rfl (Ev.load1 (agg_run rfl) rfl (by exact H.ldS (by assumption) (by assumption))) ?_
    refine OPS.val rfl rfl rfl (Ev.gtr rfl rfl) ?_
    refine OPS.nil ?_
    refine WP.cond rfl (fun hc6 => ?_) (fun hc6 => ?_)
    · refine WP.rtail 14 mixed (by kernel_rfl) H ?_
      clear H; intro w hbw7 H
      refine OPS.val rfl rfl rfl (Ev.mvF rfl) ?_
      refine OPS.val rfl rfl rfl (Ev.fieldAddr (fld_run rfl) rfl) ?_
      refine OPS.val rfl rfl rfl (Ev.load1 (agg_run rfl) rfl (by exact H.ldL 0 rfl _ rfl)) ?_
      refine OPS.val rfl rfl rfl (Ev.fieldAddr (fld_run rfl) rfl) ?_
      refine OPS.val rfl rfl rfl (Ev.load1 (agg_run rfl) rfl (by exact H.ldL 0 rfl _ rfl)) ?_
      refine OPS.val rfl rfl rfl (Ev.mvI rfl) ?_
      refine OPS.val rfl rfl rfl (Ev.fieldAddr (fld_run rfl) rfl) ?_
      refine OPS.val rfl rfl rfl (Ev.load1 (agg_run rfl) rfl (by exact H.ldL 1 rfl _ rfl)) ?_
      refine OPS.val rfl rfl rfl (Ev.mvI rfl) ?_
      refine OPS.val rfl rfl rfl ((by exact Ev.indexAddr1 (el_run rfl) (size_run rfl) rfl rfl rfl (by omega))) ?_
      refine OPS.val rfl rfl rfl (Ev.load1 (agg_run rfl) rfl (by exact H.ldS (by assumption) (by assumption))) ?_
      refine OPS.val rfl rfl rfl (Ev.fieldAddr (fld_run rfl) rfl) ?_
      refine OPS.val rfl rfl rfl (Ev.load1 (agg_run rfl) rfl (by exact H.ldL 0 rfl _ rfl)) ?_
      refine OPS.val rfl rfl rfl (Ev.neg rfl (by unfold fits; omega)) ?_
      refine OPS.nil_s ?_
      refine OPS.call (d := some 60) rfl rfl rfl (EvC.clos rfl (fun_run (by assumption))) (hvB j hlt hlt2 s1 _ hi (by simpa using hc6) (by rw [← hgs s1]; exact H.restart ((List.sublist_cons_self _ _).trans (List.sublist_cons_self _ _)))) ?_
      rintro _ w ⟨rfl, Hc⟩
      refine ⟨_, rfl, ?_⟩
      replace H := SH.call (L1 := [⟨g5, 96, arcCells l[j]⟩, ⟨g2, 111, [I n, .slice (some ⟨b, o, none⟩) l.length cap, .slice (some ⟨b2, o2, none⟩) on.length cap2]⟩]) H (by rw [hgs s1]; exact Hc)
      clear Hc
      replace hi := hiB j hlt hlt2 s1 hi (by simpa using hc6)
      have hs2 : eachB vis j l[j] on[j] s1 = vis s1 l[j].t l[j].f j on[j] (-l[j].cost) false := if_pos (by simpa using hc6)
      refine OPS.nil ?_
      refine WP.region ?_
      refine OPS.val rfl rfl rfl (Ev.add rfl rfl (by unfold fits; omega)) ?_
      refine OPS.val rfl rfl rfl (Ev.mvI rfl) ?_
      refine OPS.nil ?_
      have hfin : eachM vis l on (j + 1) s0 = eachB vis j l[j] on[j] s1 := by
        rw [eachM_succ vis l on j s0 hlt hlt2, hs]
        rw [hss, hs1]
      refine ⟨(by repeat (first | exact Agree.refl _ _ | exact Agree.mix _ _ _ | refine Agree.upd rfl ?_ | refine Agree.mix2 rfl ?_)), k - 1, by omega, j + 1, by omega, rfl, ?_, ?_⟩
      · rw [hfin, hs2]; exact H.drop (List.sublist_cons_self _ _)
      · rw [hfin, hs2]; exact hi
    have hs2 : eachB vis j l[j] on[j] s1 = s1 := if_neg (by simpa using hc6)
    refine WP.skip ?_
    refine WP.region ?_
    refine OPS.val rfl rfl rfl (Ev.add rfl rfl (by unfold fits; omega)) ?_
    refine OPS.val rfl rfl rfl (Ev.mvI rfl) ?_
    refine OPS.nil ?_
    have hfin : eachM vis l on (j + 1) s0 = eachB vis j l[j] on[j] s1 := by
      rw [eachM_succ vis l on j s0 hlt hlt2, hs]
      rw [hss, hs1]
    refine ⟨(by repeat (first | exact Agree.refl _ _ | exact Agree.mix _ _ _ | refine Agree.upd rfl ?_ | refine Agree.mix2 rfl ?_)), k - 1, by omega, j + 1, by omega, rfl, ?_, ?_⟩
    · rw [hfin, hs2]; exact H.drop (List.sublist_cons_self _ _)
    · rw [hfin, hs2]; exact hi
  refine WP.exit ?_
  refine XB.hit ?_
  refine ⟨_, rfl, ?_⟩
  have : j = l.length := by simp at hc2; omega
  subst this
  rw [hs]
  exact ⟨rfl, H.drop (List.sublist_cons_self _ _)⟩
end Go.Proofs.Ytgjfjbphngamgaa.Flo

/-
  Walks: the function that reach hands to each; reach.
-/
set_option linter.all false
namespace Go.Proofs.Ytgjfjbphngamgaa.Flo
open Go Go.W Go.RowKit

structure Step where
  from_ : Int
  arc : Int
  room : Int
  fwd : Bool
  known : Bool
  depth : Int
instance : Inhabited Step := ⟨⟨0, 0, 0, false, false, 0⟩⟩
def stepCells (s : Step) : List Value := [I s.from_, I s.arc, I s.room, Bo s.fwd, Bo s.known, I s.depth]
theorem stepCells_len (s : Step) : (stepCells s).length = 6 := rfl
abbrev RSt := List Step × Bool
def visC (d : Int) (s : RSt) (a b : Nat) : Bool := (((s.1.getD a default).known && decide ((s.1.getD a default).depth = d)) && !(s.1.getD b default).known) && decide (b < s.1.length)
def visR (d : Int) : VisF RSt := fun s a b arc room _ fwd =>
  if visC d s a.toNat b.toNat = true then (s.1.set b.toNat ⟨a, arc, room, fwd, true, d + 1⟩, true) else s
def reachLv (gs gd gg ga n : Nat) (d : Int) (s : RSt) : List Blk := [⟨gs, 112, [.slice (some ⟨ga, 0, none⟩) n n]⟩, ⟨gd, 3, [I d]⟩, ⟨gg, 4, [Bo s.2]⟩, ⟨ga, 116, s.1.flatMap stepCells⟩]

set_option maxHeartbeats 1000000 in
theorem reachVisit (gs gd gg ga n ai bi : Nat) (d room cost : Int) (arc : Nat) (fwd : Bool) (s : RSt) (w0 : World) (hn : s.1.length = n) (ha : ai < n) (hb : bi < n) (hd : 0 ≤ d) (hd2 : d ≤ 1000000)
    (H0 : SH w0 [gs, gd, gg, ga] w0 (reachLv gs gd gg ga n d s)) :
    Calls Try.prog 103 #[I ai, I bi, I arc, I room, I cost, .bool fwd, .pointer (some ⟨gs, 0, none⟩), .pointer (some ⟨gd, 0, none⟩), .pointer (some ⟨gg, 0, none⟩)] w0
      fun e w' => e = .returned (.tuple #[]) ∧ SH w0 [gs, gd, gg, ga] w' (reachLv gs gd gg ga n d (visR d s ai bi arc room cost fwd)) := by
  have H := H0
  unfold reachLv at H
  have hga : s.1.getD ai default = s.1[ai] := by simp [hn, ha]
  have hgb : s.1.getD bi default = s.1[bi] := by simp [hn, hb]
  refine Calls.ofWP Try.func103 rfl Try.results103 Try.ntmps103 rfl ?_
  refine WP.seq ?_
  refine WP.rstill mixed (by kernel_rfl) H ?_
  clear H; intro w hbw0 H
  have hrow := rowsOwn' stepCells_len H 3 rfl
  obtain ⟨_, _, e1, a0, a1, a2, a3, a4, a5, _⟩ := hrow ai (by omega)
  cases e1
  obtain ⟨_, _, e1, b0, b1, b2, b3, b4, b5, _⟩ := hrow bi (by omega)
  cases e1
  refine OPS.val rfl rfl rfl (Ev.load1 (agg_run rfl) rfl (by exact H.ldL 0 rfl _ rfl)) ?_
  refine OPS.val rfl rfl rfl (Ev.mvI rfl) ?_
  refine OPS.val rfl rfl rfl ((by exact Ev.indexAddr (el_run rfl) (size_run rfl) rfl rfl rfl (by omega))) ?_
  refine OPS.val rfl rfl rfl (Ev.fieldAddr (fld_run rfl) rfl) ?_
  refine OPS.val rfl rfl rfl (Ev.load1 (agg_run rfl) rfl (by assumption)) ?_
  refine OPS.val rfl rfl rfl (Ev.mvB rfl) ?_
  refine OPS.gval rfl rfl rfl rfl rfl (fun hg => Ev.load1 (agg_run rfl) (by rfl) (by exact H.ldL 0 rfl _ rfl)) ?_
  refine OPS.gval rfl rfl rfl rfl rfl (fun hg => Ev.mvI (by rfl)) ?_
  refine OPS.gval rfl rfl rfl rfl rfl (fun hg => (by exact Ev.indexAddr (el_run rfl) (size_run rfl) (by exact gvE hg rfl) (by exact gvE hg rfl) rfl (by omega))) ?_
  refine OPS.gval rfl rfl rfl rfl rfl (fun hg => Ev.fieldAddr (fld_run rfl) (by exact gvE hg rfl)) ?_
  refine OPS.gval rfl rfl rfl rfl rfl (fun hg => Ev.load1 (agg_run rfl) (by exact gvE hg rfl) (by assumption)) ?_
  refine OPS.gval rfl rfl rfl rfl rfl (fun hg => Ev.load1 (agg_run rfl) (by rfl) (by exact H.ldL 1 rfl _ rfl)) ?_
  refine OPS.gval rfl rfl rfl rfl rfl (fun hg => Ev.eql (by exact gvE hg rfl) (by exact gvE hg rfl)) ?_
  refine OPS.val rfl rfl rfl ((by exact Ev.pickAnd rfl rfl rfl)) ?_
  refine OPS.val rfl rfl rfl (Ev.mvB rfl) ?_
  refine OPS.gval rfl rfl rfl rfl rfl (fun hg => Ev.load1 (agg_run rfl) (by rfl) (by exact H.ldL 0 rfl _ rfl)) ?_
  refine OPS.gval rfl rfl rfl rfl rfl (fun hg => Ev.mvI (by rfl)) ?_
  refine OPS.gval rfl rfl rfl rfl rfl (fun hg => (by exact Ev.indexAddr (el_run rfl) (size_run rfl) (by exact gvE hg rfl) (by exact gvE hg rfl) rfl (by omega))) ?_
  refine OPS.gval rfl rfl rfl rfl rfl (fun hg => Ev.fieldAddr (fld_run rfl) (by exact gvE hg rfl)) ?_
  refine OPS.gval rfl rfl rfl rfl rfl (fun hg => Ev.load1 (agg_run rfl) (by exact gvE hg rfl) (by assumption)) ?_
  refine OPS.gval rfl rfl rfl rfl rfl (fun hg => Ev.not (by exact gvE hg rfl)) ?_
  refine OPS.val rfl rfl rfl ((by exact Ev.pickAnd rfl rfl rfl)) ?_
  refine OPS.nil_s ?_
  refine WP.cond rfl (fun hc0 => ?_) (fun hc0 => ?_)
  · have hc : visC d s ai bi = true := by rw [visC, hga, hgb, show decide (bi < s.1.length) = true by simp [hn, hb], Bool.and_true]; exact hc0
    have hv : visR d s ai bi arc room cost fwd = (s.1.set bi ⟨ai, arc, room, fwd, true, d + 1⟩, true) := by simp only [visR, Int.toNat_natCast, hc, if_true]
    refine WP.seq ?_
    refine WP.region ?_
    refine OPS.val rfl rfl rfl (Ev.load1 (agg_run rfl) rfl (by exact H.ldL 0 rfl _ rfl)) ?_
    refine OPS.val rfl rfl rfl (Ev.mvI rfl) ?_
    refine OPS.val rfl rfl rfl (Ev.mvI rfl) ?_
    refine OPS.val rfl rfl rfl (Ev.mvI rfl) ?_
    refine OPS.val rfl rfl rfl (Ev.mvI rfl) ?_
    refine OPS.val rfl rfl rfl (Ev.mvB rfl) ?_
    refine OPS.val rfl rfl rfl (Ev.load1 (agg_run rfl) rfl (by exact H.ldL 1 rfl _ rfl)) ?_
    refine OPS.val rfl rfl rfl (Ev.add rfl rfl (by unfold fits; omega)) ?_
    refine OPS.val rfl rfl rfl (Ev.build (bld_116_0_1_2_3_4_5 rfl rfl rfl rfl rfl rfl)) ?_
    refine OPS.val rfl rfl rfl ((by exact Ev.indexAddr (el_run rfl) (size_run rfl) rfl rfl rfl (by omega))) ?_
    refine OPS.store 3 _ rfl rfl rfl (size_run rfl) rfl rfl rfl rfl H rfl (by simp only [rows_length stepCells_len]; omega) ?_
    clear H; intro w H
    have hp := putL_rows stepCells_len s.1 bi ⟨ai, arc, room, fwd, true, d + 1⟩ (by omega)
    rw [Nat.zero_add] at H
    replace H : SH w0 [gs, gd, gg, ga] w [⟨gs, 112, [.slice (some ⟨ga, 0, none⟩) n n]⟩, ⟨gd, 3, [I d]⟩, ⟨gg, 4, [Bo s.2]⟩, ⟨ga, 116, putL (s.1.flatMap stepCells) (bi * 6) (stepCells ⟨ai, arc, room, fwd, true, d + 1⟩)⟩] := H
    rw [hp] at H
    refine OPS.nil ?_
    refine WP.region ?_
    refine OPS.store 2 _ rfl rfl rfl (size_run rfl) rfl (cB rfl) rfl rfl H rfl (by simp) ?_
    clear H; intro w H; try simp only [List.set_cons_zero, List.set_cons_succ, putL, Nat.zero_add] at H
    refine OPS.nil ?_
    refine ⟨_, rfl, ?_⟩
    exact ⟨rfl, by rw [hv]; exact H⟩
  have hc : visC d s ai bi = false := by rw [visC, hga, hgb, show decide (bi < s.1.length) = true by simp [hn, hb], Bool.and_true]; exact hc0
  have hv : visR d s ai bi arc room cost fwd = s := by simp only [visR, Int.toNat_natCast, hc]; rfl
  refine WP.skip ?_
  refine ⟨_, rfl, ?_⟩
  exact ⟨rfl, by rw [hv]; exact H⟩
end Go.Proofs.Ytgjfjbphngamgaa.Flo

/-
  Walk: reach.
-/
set_option linter.all false
namespace Go.Proofs.Ytgjfjbphngamgaa.Flo
open Go Go.W Go.RowKit

def reachStep (l : List Arc) (on : List Int) (d : Int) (sts : List Step) : RSt := eachM (visR d) l on l.length (sts, false)
def reachIter (l : List Arc) (on : List Int) : Nat → Int → List Step → List Step
  | 0, _, sts => sts
  | f + 1, d, sts => if (reachStep l on d sts).2 = true then reachIter l on f (d + 1) (reachStep l on d sts).1 else (reachStep l on d sts).1
def reachInit (n f : Nat) : List Step := (List.replicate n default).set f ⟨f, -1, 0, false, true, 0⟩
def reachFin (l : List Arc) (on : List Int) (n f : Nat) : List Step := reachIter l on (n + 1) 0 (reachInit n f)
def unk (sts : List Step) : Nat := sts.countP fun s => !s.known

theorem visR_length (d : Int) (s : RSt) (a b : Int) (arc : Nat) (room cost : Int) (fwd : Bool) : (visR d s a b arc room cost fwd).1.length = s.1.length := by
  unfold visR; split <;> simp
def RInv (sts0 : List Step) (s : RSt) : Prop := s.1.length = sts0.length ∧ (s.2 = false → s.1 = sts0) ∧ (s.2 = true → unk s.1 < unk sts0)
theorem unk_set {sts : List Step} {b : Nat} {x : Step} (hb : b < sts.length) (h : sts[b].known = false) (hx : x.known = true) : unk (sts.set b x) < unk sts := by
  unfold unk
  have h1 : (sts.countP fun s => !s.known) = ((sts.take b).countP fun s => !s.known) + ((sts.drop b).countP fun s => !s.known) := by
    rw [← List.countP_append, List.take_append_drop]
  have h2 : ((sts.set b x).countP fun s => !s.known) = ((sts.take b).countP fun s => !s.known) + ((sts.drop (b+1)).countP fun s => !s.known) := by
    rw [List.set_eq_take_append_cons_drop, if_pos hb, List.countP_append, List.countP_cons]; simp [hx]
  rw [h1, h2, List.drop_eq_getElem_cons hb, List.countP_cons]
  simp [h]
theorem visR_inv {sts0 : List Step} (d : Int) (s : RSt) (a b : Int) (arc : Nat) (room cost : Int) (fwd : Bool) (h : RInv sts0 s) : RInv sts0 (visR d s a b arc room cost fwd) := by
  refine ⟨by rw [visR_length]; exact h.1, ?_, ?_⟩
  · unfold visR; split
    · intro hc; cases hc
    · exact h.2.1
  · unfold visR; split
    · rename_i hc
      intro _
      simp only
      unfold visC at hc
      simp only [Bool.and_eq_true, Bool.not_eq_true', decide_eq_true_eq] at hc
      have hb : b.toNat < s.1.length := hc.2
      have hk : s.1[b.toNat].known = false := by have := hc.1.2; simpa [hb] using this
      have h1 := unk_set hb hk (x := ⟨a, arc, room, fwd, true, d + 1⟩) rfl
      cases hs : s.2 with
      | false => rw [h.2.1 hs] at h1; rw [h.2.1 hs]; exact h1
      | true => have := h.2.2 hs; omega
    · exact h.2.2
theorem eachM_inv {σ : Type} {vis : VisF σ} {l : List Arc} {on : List Int} {Inv : σ → Prop} (h : ∀ s a b arc room cost fwd, Inv s → Inv (vis s a b arc room cost fwd)) {s : σ} (hs : Inv s) : ∀ k, Inv (eachM vis l on k s)
  | 0 => hs
  | k + 1 => by
    have ih := eachM_inv (l := l) (on := on) h hs k
    rw [eachM]
    have h1 : Inv (eachF vis k (l.getD k default) (on.getD k 0) (eachM vis l on k s)) := by unfold eachF; split; exact h _ _ _ _ _ _ _ ih; exact ih
    unfold eachB; split
    · exact h _ _ _ _ _ _ _ h1
    · exact h1
theorem reachStep_inv (l : List Arc) (on : List Int) (d : Int) (sts : List Step) : RInv sts (reachStep l on d sts) :=
  eachM_inv (fun s a b arc room cost fwd h => visR_inv d s a b arc room cost fwd h) ⟨rfl, fun _ => rfl, fun h => by cases h⟩ _

set_option maxHeartbeats 400000 in
theorem flowReach (n f : Nat) (A B : Option Addr) (l : List Arc) (on : List Int) (cap cap2 : Nat) (w0 : World) (hf : f < n) (hn : n ≤ 64)
    (hz : ArcsAt w0 A l) (ho : IntsAt w0 B on) (hlen : on.length = l.length) (hl : l.length ≤ 4096)
    (hcap : ∀ i (h : i < l.length), -1000000 ≤ l[i].cap ∧ l[i].cap ≤ 1000000 ∧ -1000000 ≤ l[i].cost ∧ l[i].cost ≤ 1000000) (hon : ∀ i (h : i < on.length), -1000000000 ≤ on[i] ∧ on[i] ≤ 1000000000)
    (hnode : ∀ i (h : i < l.length), (0 ≤ l[i].f ∧ l[i].f < n) ∧ (0 ≤ l[i].t ∧ l[i].t < n)) :
    Calls Try.prog 94 #[.agg #[I n, .slice A l.length cap, .slice B on.length cap2], I f] w0
      fun e w' => ∃ ga, e = .returned (.slice (some ⟨ga, 0, none⟩) n n) ∧ SH w0 [] w' [⟨ga, 116, (reachFin l on n f).flatMap stepCells⟩] := by
  have H := SH.refl w0
  refine Calls.ofWP Try.func94 rfl Try.results94 Try.ntmps94 rfl ?_
  refine WP.seq ?_
  refine WP.region ?_
  refine OPS.box rfl rfl rfl rfl (cA rfl) H ?_
  clear H; intro g2 w H
  refine OPS.val rfl rfl rfl (Ev.asS rfl) ?_
  refine OPS.nil ?_
  refine WP.seq ?_
  refine WP.region ?_
  refine OPS.val rfl rfl rfl (Ev.fieldAddr (fld_run rfl) rfl) ?_
  refine OPS.val rfl rfl rfl (Ev.fieldAddr (fld_run rfl) rfl) ?_
  refine OPS.val rfl rfl rfl (Ev.load1 (agg_run rfl) rfl (by exact H.ldL 0 rfl _ rfl)) ?_
  refine OPS.makeSlice rfl rfl rfl rfl (sl_run rfl) rfl rfl rfl (by omega) (by omega) H ?_
  clear H; intro g11 w H
  refine OPS.alloc rfl rfl rfl rfl (zero_run rfl) rfl H ?_
  clear H; intro g5 w H
  refine OPS.store 0 _ rfl rfl rfl (size_run rfl) rfl (cS rfl) rfl rfl H rfl (by simp) ?_
  clear H; intro w H; try simp only [List.set_cons_zero, List.set_cons_succ, putL, Nat.zero_add] at H
  refine OPS.nil ?_
  refine WP.seq ?_
  refine WP.region ?_
  refine OPS.val rfl rfl rfl (Ev.load1 (agg_run rfl) rfl (by exact H.ldL 0 rfl _ rfl)) ?_
  refine OPS.val rfl rfl rfl (Ev.mvI rfl) ?_
  refine OPS.val rfl rfl rfl (Ev.mvI rfl) ?_
  refine OPS.val rfl rfl rfl (Ev.build (bld_116_0_1_4 rfl rfl rfl)) ?_
  refine OPS.val rfl rfl rfl ((by exact Ev.indexAddr (el_run rfl) (size_run rfl) rfl rfl rfl (by omega))) ?_
  refine OPS.store 1 _ rfl rfl rfl (size_run rfl) rfl (cA rfl) rfl rfl H rfl (by simp only [mkL_length, List.length_cons, List.length_nil]; omega) ?_
  clear H; intro w H
  have hp := putL_rows stepCells_len (List.replicate n default) f ⟨f, -1, 0, false, true, 0⟩ (by simpa using hf)
  rw [← mkL_rows] at hp
  rw [Nat.zero_add] at H
  replace H : SH w0 [] w [⟨g5, 112, [.slice (some ⟨g11, 0, none⟩) n n]⟩, ⟨g11, 116, putL (mkL n (stepCells default)) (f * 6) (stepCells ⟨f, -1, 0, false, true, 0⟩)⟩, ⟨g2, 111, [I n, .slice A l.length cap, .slice B on.length cap2]⟩] := H
  rw [hp] at H
  refine OPS.nil ?_
  refine WP.seq ?_
  refine WP.seq ?_
  refine WP.region ?_
  refine OPS.alloc rfl rfl rfl rfl (zero_run rfl) rfl H ?_
  clear H; intro g6 w H
  refine OPS.alloc rfl rfl rfl rfl (zero_run rfl) rfl H ?_
  clear H; intro g7 w H
  refine OPS.store 1 _ rfl rfl rfl (size_run rfl) rfl (cI rfl) rfl rfl H rfl (by simp) ?_
  clear H; intro w H; try simp only [List.set_cons_zero, List.set_cons_succ, putL, Nat.zero_add] at H
  refine OPS.store 0 _ rfl rfl rfl (size_run rfl) rfl (cB rfl) rfl rfl H rfl (by simp) ?_
  clear H; intro w H; try simp only [List.set_cons_zero, List.set_cons_succ, putL, Nat.zero_add] at H
  refine OPS.nil ?_
  refine WP.block ?_
  refine WP.loop [6, 7, 17, 18, 19, 20, 21, 22, 23, 24] (fun k e w' => ∃ (gg gd : Nat) (d : Nat) (g : Bool) (sts : List Step), e 6 = .pointer (some ⟨gd, 0, none⟩) ∧ e 7 = .pointer (some ⟨gg, 0, none⟩) ∧ SH w0 [] w' [⟨g2, 111, [I n, .slice A l.length cap, .slice B on.length cap2]⟩, ⟨g5, 112, [.slice (some ⟨g11, 0, none⟩) n n]⟩, ⟨gd, 3, [I d]⟩, ⟨gg, 4, [Bo g]⟩, ⟨g11, 116, sts.flatMap stepCells⟩] ∧ sts.length = n ∧ d + k ≤ n + 1 ∧ (g = true → unk sts < k ∧ reachFin l on n f = reachIter l on k d sts) ∧ (g = false → reachFin l on n f = sts)) (n + 1) (⟨g7, g6, 0, true, reachInit n f, rfl, rfl, H.reidx [4, 2, 1, 0, 3] (by decide) rfl, by simp [reachInit], by omega, fun _ => ⟨by have h1 : unk (reachInit n f) ≤ (reachInit n f).length := List.countP_le_length; simp [reachInit] at h1 ⊢; omega, rfl⟩, fun h => by cases h⟩) ?_
  clear H
  rintro k u w ⟨gg, gd, d, g, sts, h6, h7, H, hst, hd, hg1, hg2⟩
  refine WP.know (t := 6) h6 (WP.know (t := 7) h7 ?_)
  refine WP.seq ?_
  refine WP.seq ?_
  refine WP.region ?_
  refine OPS.val rfl rfl rfl (Ev.load1 (agg_run rfl) rfl (by exact H.ldL 3 rfl _ rfl)) ?_
  refine OPS.nil ?_
  refine WP.cond rfl (fun hc4 => ?_) (fun hc4 => ?_)
  · subst hc4
    obtain ⟨hk, hfin⟩ := hg1 rfl
    clear hg1 hg2
    refine WP.skip ?_
    refine WP.seq ?_
    refine WP.block ?_
    refine WP.seq ?_
    refine WP.region ?_
    refine OPS.store 3 _ rfl rfl rfl (size_run rfl) rfl (cB rfl) rfl rfl H rfl (by simp) ?_
    clear H; intro w H; try simp only [List.set_cons_zero, List.set_cons_succ, putL, Nat.zero_add] at H
    refine OPS.nil ?_
    refine WP.region ?_
    refine OPS.val rfl rfl rfl ((by exact Ev.loadO 0 H rfl (agg_run rfl) (size_run rfl) (by rfl) rfl)) ?_
    refine OPS.val rfl rfl rfl (Ev.makeFunc) ?_
    have hfr : ∀ g ∈ [g5, gd, gg, g11], w0.heap.size ≤ g := fun g hg => H.fresh g (List.mem_cons_of_mem _ hg)
    have hA : l ≠ [] → Off A [g5, gd, gg, g11] := hz.off (fun _ => by simp [arcCells]) hfr
    have hB : on ≠ [] → Off B [g5, gd, gg, g11] := ho.off hfr
    have hvF : ∀ i (h : i < l.length) (h2 : i < on.length) (s : RSt) w, s.1.length = n → on[i] < l[i].cap → SH w [g5, gd, gg, g11] w (reachLv g5 gd gg g11 n d s) → Calls Try.prog 103 ([I l[i].f, I l[i].t, I i, I (l[i].cap - on[i]), I l[i].cost, .bool true] ++ [Value.pointer (some ⟨g5, 0, none⟩), Value.pointer (some ⟨gd, 0, none⟩), Value.pointer (some ⟨gg, 0, none⟩)]).toArray w fun e w' => e = .returned (.tuple #[]) ∧ SH w [g5, gd, gg, g11] w' (reachLv g5 gd gg g11 n d (visR d s l[i].f l[i].t i (l[i].cap - on[i]) l[i].cost true)) := by
      intro i h h2 s w hs _ Hw
      obtain ⟨⟨p1, p2⟩, p3, p4⟩ := hnode i h
      obtain ⟨ai, hai⟩ := Int.eq_ofNat_of_zero_le p1
      obtain ⟨bi, hbi⟩ := Int.eq_ofNat_of_zero_le p3
      rw [hai, hbi]
      exact reachVisit g5 gd gg g11 n ai bi d _ _ i true s w hs (by omega) (by omega) (by omega) (by omega) Hw
    have hvB : ∀ i (h : i < l.length) (h2 : i < on.length) (s : RSt) w, s.1.length = n → 0 < on[i] → SH w [g5, gd, gg, g11] w (reachLv g5 gd gg g11 n d s) → Calls Try.prog 103 ([I l[i].t, I l[i].f, I i, I on[i], I (-l[i].cost), .bool false] ++ [Value.pointer (some ⟨g5, 0, none⟩), Value.pointer (some ⟨gd, 0, none⟩), Value.pointer (some ⟨gg, 0, none⟩)]).toArray w fun e w' => e = .returned (.tuple #[]) ∧ SH w [g5, gd, gg, g11] w' (reachLv g5 gd gg g11 n d (visR d s l[i].t l[i].f i on[i] (-l[i].cost) false)) := by
      intro i h h2 s w hs _ Hw
      obtain ⟨⟨p1, p2⟩, p3, p4⟩ := hnode i h
      obtain ⟨ai, hai⟩ := Int.eq_ofNat_of_zero_le p1
      obtain ⟨bi, hbi⟩ := Int.eq_ofNat_of_zero_le p3
      rw [hai, hbi]
      exact reachVisit g5 gd gg g11 n bi ai d _ _ i false s w hs (by omega) (by omega) (by omega) (by omega) Hw
    refine OPS.call (d := some 22) rfl rfl rfl (EvC.func (fun_run rfl)) (flowEach (visR d) (reachLv g5 gd gg g11 n d) [g5, gd, gg, g11] (fun _ => rfl) (fun s => s.1.length = n) 103 [.pointer (some ⟨g5, 0, none⟩), .pointer (some ⟨gd, 0, none⟩), .pointer (some ⟨gg, 0, none⟩)] n A B l on cap cap2 (sts, false) _ rfl (hz.sh H) hA (ho.sh H) hB hlen hl hcap hon hvF (fun i _ _ s hs _ => by rw [visR_length]; exact hs) hvB (fun i _ _ s hs _ => by rw [visR_length]; exact hs) hst (H.restart (List.sublist_cons_self _ _))) ?_
    rintro _ w ⟨rfl, Hc⟩
    refine ⟨_, rfl, ?_⟩
    replace H := SH.call (L1 := [⟨g2, 111, [I n, .slice A l.length cap, .slice B on.length cap2]⟩]) (Lv := reachLv g5 gd gg g11 n d (sts, false)) H Hc
    clear Hc
    have hinv := reachStep_inv l on d sts
    have hstep : eachM (visR d) l on l.length (sts, false) = reachStep l on d sts := rfl
    rw [hstep] at H
    generalize hr : reachStep l on d sts = r at H hinv
    unfold reachLv at H
    refine OPS.nil ?_
    refine WP.seq ?_
    refine WP.seq ?_
    refine WP.region ?_
    refine OPS.val rfl rfl rfl (Ev.load1 (agg_run rfl) rfl (by exact H.ldL 2 rfl _ rfl)) ?_
    refine OPS.val rfl rfl rfl (Ev.load1 (agg_run rfl) rfl (by exact H.ldL 3 rfl _ rfl)) ?_
    refine OPS.nil ?_
    refine WP.region ?_
    refine OPS.alloc rfl rfl rfl rfl (zero_run rfl) rfl H ?_
    clear H; intro g6 w H
    refine OPS.store 0 _ rfl rfl rfl (size_run rfl) rfl (cI rfl) rfl rfl H rfl (by simp) ?_
    clear H; intro w H; try simp only [List.set_cons_zero, List.set_cons_succ, putL, Nat.zero_add] at H
    refine OPS.alloc rfl rfl rfl rfl (zero_run rfl) rfl H ?_
    clear H; intro g7 w H
    refine OPS.store 0 _ rfl rfl rfl (size_run rfl) rfl (cB rfl) rfl rfl H rfl (by simp) ?_
    clear H; intro w H; try simp only [List.set_cons_zero, List.set_cons_succ, putL, Nat.zero_add] at H
    refine OPS.nil ?_
    replace H := H.reidx (L' := [⟨g2, 111, [I n, .slice A l.length cap, .slice B on.length cap2]⟩, ⟨g5, 112, [.slice (some ⟨g11, 0, none⟩) n n]⟩, ⟨g6, 3, [I d]⟩, ⟨g7, 4, [Bo r.2]⟩, ⟨g11, 116, r.1.flatMap stepCells⟩]) [2, 3, 1, 0, 6] (by decide) rfl
    refine WP.region ?_
    refine OPS.val rfl rfl rfl (Ev.load1 (agg_run rfl) rfl (by exact H.ldL 2 rfl _ rfl)) ?_
    refine OPS.val rfl rfl rfl (Ev.add rfl rfl (by unfold fits; omega)) ?_
    refine OPS.store 2 _ rfl rfl rfl (size_run rfl) rfl (cI rfl) rfl rfl H rfl (by simp) ?_
    clear H; intro w H; try simp only [List.set_cons_zero, List.set_cons_succ, putL, Nat.zero_add] at H
    refine OPS.nil ?_
    have hk1 : ∃ k', k = k' + 1 := ⟨k - 1, by omega⟩
    obtain ⟨k', rfl⟩ := hk1
    refine ⟨(by repeat (first | exact Agree.refl _ _ | exact Agree.mix _ _ _ | refine Agree.upd rfl ?_ | refine Agree.mix2 rfl ?_)), k', by omega, g7, g6, d + 1, r.2, r.1, rfl, rfl, H, by rw [hinv.1, hst], by omega, fun hr2 => ⟨by have := hinv.2.2 hr2; omega, ?_⟩, fun hr2 => ?_⟩
    · rw [hfin, reachIter, hr, if_pos hr2]; rfl
    · rw [hfin, reachIter, hr, if_neg (by simp [hr2])]
  refine WP.exit ?_
  refine XB.hit ?_
  refine WP.seq ?_
  refine WP.region ?_
  refine OPS.val rfl rfl rfl (Ev.load1 (agg_run rfl) rfl (by exact H.ldL 1 rfl _ rfl)) ?_
  refine OPS.val rfl rfl rfl (Ev.asS rfl) ?_
  refine OPS.nil ?_
  refine WP.ret ⟨_, rfl, ?_⟩
  subst hc4
  rw [hg2 rfl]
  exact ⟨g11, rfl, H.reidx [4] (by decide) rfl⟩
end Go.Proofs.Ytgjfjbphngamgaa.Flo

/-
  Walk: push.
-/
set_option linter.all false
namespace Go.Proofs.Ytgjfjbphngamgaa.Flo
open Go Go.W Go.RowKit

/-- from node k back to f along the steps: the nodes passed, k first, without f -/
def Chain (sts : List Step) (f m : Nat) : List Nat → Nat → Prop
  | [], k => k = f
  | x :: xs, k => k = x ∧ k ≠ f ∧ k < sts.length ∧ ∃ p ai : Nat, (sts.getD k default).from_ = p ∧ (sts.getD k default).arc = ai ∧ ai < m ∧ Chain sts f m xs p
def minI (a b : Int) : Int := if b < a then b else a
def pushMin (sts : List Step) (ks : List Nat) (most : Int) : Int := ks.foldl (fun m k => minI m (sts.getD k default).room) most
def push1 (sts : List Step) (M : Int) (on : List Int) (k : Nat) : List Int :=
  let s := sts.getD k default
  on.set s.arc.toNat (if s.fwd = true then on.getD s.arc.toNat 0 + M else on.getD s.arc.toNat 0 - M)
def pushOn (sts : List Step) (ks : List Nat) (M : Int) (on : List Int) : List Int := ks.foldl (push1 sts M) on
theorem push1_length (sts : List Step) (M : Int) (on : List Int) (k : Nat) : (push1 sts M on k).length = on.length := by simp [push1]
theorem pushOn_length (sts : List Step) (M : Int) : ∀ (ks : List Nat) (on : List Int), (pushOn sts ks M on).length = on.length
  | [], _ => rfl
  | k :: ks, on => by unfold pushOn; rw [List.foldl_cons]; exact (pushOn_length sts M ks _).trans (push1_length sts M on k)

set_option maxHeartbeats 400000 in
theorem flowPush (gon : Nat) (A As : Option Addr) (la cap cap2 cap3 : Nat) (n f t most : Int) (fn tn : Nat) (hf : f = fn) (ht : t = tn) (sts : List Step) (on : List Int) (ks : List Nat) (w0 : World)
    (hs : RowsAt 6 stepCells w0 As sts) (hoff : sts ≠ [] → Off As [gon]) (hch : Chain sts fn on.length ks tn) (hks : ks.length ≤ 1000)
    (hM : -1000000 ≤ pushMin sts ks most ∧ pushMin sts ks most ≤ 1000000) (hon : ∀ i (h : i < on.length), -1000000000 ≤ on[i] ∧ on[i] ≤ 1000000000)
    (H0 : SH w0 [gon] w0 [⟨gon, 3, on.map I⟩]) :
    Calls Try.prog 59 #[.agg #[I n, .slice A la cap, .slice (some ⟨gon, 0, none⟩) on.length cap2], .slice As sts.length cap3, I f, I t, I most] w0
      fun e w' => e = .returned (I (pushMin sts ks most)) ∧ SH w0 [gon] w' [⟨gon, 3, (pushOn sts ks (pushMin sts ks most) on).map I⟩] := by
  subst hf ht
  have H := H0
  refine Calls.ofWP Try.func59 rfl Try.results59 Try.ntmps59 rfl ?_
  refine WP.seq ?_
  refine WP.region ?_
  refine OPS.box rfl rfl rfl rfl (cA rfl) H ?_
  clear H; intro g5 w H
  refine OPS.val rfl rfl rfl (Ev.asI rfl) ?_
  refine OPS.nil ?_
  refine WP.seq ?_
  refine WP.seq ?_
  refine WP.region ?_
  refine OPS.val rfl rfl rfl (Ev.mvI rfl) ?_
  refine OPS.val rfl rfl rfl (Ev.asI rfl) ?_
  refine OPS.nil ?_
  refine WP.block ?_
  refine WP.loop [4, 11, 14, 15, 16, 17, 18, 19, 20, 21, 22, 23, 24, 25, 26, 27, 28] (fun g e w' => w' = w ∧ ∃ (k : Nat) (m : Int) (xs : List Nat), xs.length = g ∧ e 11 = I k ∧ e 4 = I m ∧ Chain sts fn on.length xs k ∧ pushMin sts xs m = pushMin sts ks most) (ks.length) (⟨rfl, tn, most, ks, rfl, rfl, rfl, hch, rfl⟩) ?_
  rintro g u w' ⟨rfl, k, m, xs, hg, h11, h4, hc, hm⟩
  refine WP.know (t := 11) h11 (WP.know (t := 4) h4 ?_)
  refine WP.seq ?_
  refine WP.seq ?_
  refine WP.region ?_
  refine OPS.val rfl rfl rfl (Ev.mvI rfl) ?_
  refine OPS.val rfl rfl rfl (Ev.mvI rfl) ?_
  refine OPS.val rfl rfl rfl (Ev.neq rfl rfl) ?_
  refine OPS.nil ?_
  refine WP.cond rfl (fun hc2 => ?_) (fun hc2 => ?_)
  · have hkf : k ≠ fn := by intro he; simp [he] at hc2
    obtain ⟨x, xs, rfl⟩ : ∃ x xs', xs = x :: xs' := by
      cases xs with
      | nil => exact absurd hc hkf
      | cons x xs => exact ⟨x, xs, rfl⟩
    obtain ⟨rfl, _, hkl, p, ai, hp, hai, hal, hc⟩ := hc
    have hgd : sts.getD k default = sts[k] := by simp [hkl]
    rw [hgd] at hp hai
    obtain ⟨b, o, rfl, hrow⟩ := hs k hkl
    have hb : b ∉ [gon] := hoff (List.ne_nil_of_length_pos (by omega)) b o rfl
    obtain ⟨a0, a1, a2, a3, a4, a5, _⟩ := cellsAt_shS H hb hrow
    refine WP.skip ?_
    refine WP.seq ?_
    refine WP.block ?_
    refine WP.region ?_
    refine OPS.val rfl rfl rfl (Ev.mvI rfl) ?_
    refine OPS.val rfl rfl rfl (Ev.mvS rfl) ?_
    refine OPS.val rfl rfl rfl (Ev.mvI rfl) ?_
    refine OPS.val rfl rfl rfl ((by exact Ev.indexAddr (el_run rfl) (size_run rfl) rfl rfl rfl (by omega))) ?_
    refine OPS.val rfl rfl rfl (Ev.fieldAddr (fld_run rfl) rfl) ?_
    refine OPS.val rfl rfl rfl (Ev.load1 (agg_run rfl) rfl (by assumption)) ?_
    refine OPS.val rfl rfl rfl (Ev.min rfl rfl) ?_
    refine OPS.val rfl rfl rfl (Ev.asI rfl) ?_
    refine OPS.nil ?_
    refine WP.region ?_
    refine OPS.val rfl rfl rfl (Ev.mvS rfl) ?_
    refine OPS.val rfl rfl rfl (Ev.mvI rfl) ?_
    refine OPS.val rfl rfl rfl ((by exact Ev.indexAddr (el_run rfl) (size_run rfl) rfl rfl rfl (by omega))) ?_
    refine OPS.val rfl rfl rfl (Ev.fieldAddr (fld_run rfl) rfl) ?_
    refine OPS.val rfl rfl rfl (Ev.load1 (agg_run rfl) rfl (by assumption)) ?_
    refine OPS.val rfl rfl rfl (Ev.asI rfl) ?_
    refine OPS.nil ?_
    have hm2 : pushMin sts xs (minI m sts[k].room) = pushMin sts ks most := by rw [← hm]; simp only [pushMin, List.foldl_cons, hgd]
    simp only [List.length_cons] at hg
    exact ⟨(by repeat (first | exact Agree.refl _ _ | exact Agree.mix _ _ _ | refine Agree.upd rfl ?_ | refine Agree.mix2 rfl ?_)), xs.length, by omega, rfl, p, minI m sts[k].room, xs, rfl, by rw [← hp]; rfl, rfl, hc, hm2⟩
  have hkf : k = fn := by simp at hc2; omega
  have hxs : xs = [] := by
    cases xs with
    | nil => rfl
    | cons x xs => exact absurd hkf hc.2.1
  subst hxs
  have hm' : m = pushMin sts ks most := hm
  subst hm'
  generalize hMM : pushMin sts ks most = M at *
  refine WP.exit ?_
  refine XB.hit ?_
  refine WP.seq ?_
  refine WP.seq ?_
  refine WP.region ?_
  refine OPS.val rfl rfl rfl (Ev.mvI rfl) ?_
  refine OPS.val rfl rfl rfl (Ev.asI rfl) ?_
  refine OPS.nil ?_
  refine WP.block ?_
  refine WP.loop [12, 30, 31, 32, 33, 34, 35, 36, 37, 38, 39, 40, 41, 42, 43, 44, 45, 46, 47, 48, 49, 50, 51, 52, 53, 54, 55, 56, 57, 58, 59, 60, 61, 62, 63, 64, 65, 66] (fun g e w' => ∃ (k : Nat) (on' : List Int) (xs : List Nat), xs.length = g ∧ g ≤ ks.length ∧ e 12 = I k ∧ SH w0 [gon] w' [⟨g5, 111, [I n, .slice A la cap, .slice (some ⟨gon, 0, none⟩) on.length cap2]⟩, ⟨gon, 3, on'.map I⟩] ∧ Chain sts fn on.length xs k ∧ on'.length = on.length ∧ pushOn sts xs M on' = pushOn sts ks M on ∧ ∀ i (h : i < on'.length), -1000000000 - 1000000 * ((ks.length : Int) - g) ≤ on'[i] ∧ on'[i] ≤ 1000000000 + 1000000 * ((ks.length : Int) - g)) (ks.length) (⟨tn, on, ks, rfl, Nat.le_refl _, rfl, H, hch, rfl, rfl, fun i h => by have := hon i h; omega⟩) ?_
  clear H
  rintro g u2 w ⟨k, on', xs, hg, hgle, h12, H, hc, hol, hpo, hob⟩
  refine WP.know (t := 12) h12 ?_
  refine WP.seq ?_
  refine WP.seq ?_
  refine WP.region ?_
  refine OPS.val rfl rfl rfl (Ev.mvI rfl) ?_
  refine OPS.val rfl rfl rfl (Ev.mvI rfl) ?_
  refine OPS.val rfl rfl rfl (Ev.neq rfl rfl) ?_
  refine OPS.nil ?_
  refine WP.cond rfl (fun hc6 => ?_) (fun hc6 => ?_)
  · have hkf : k ≠ fn := by intro he; simp [he] at hc6
    obtain ⟨x, xs, rfl⟩ : ∃ x xs', xs = x :: xs' := by
      cases xs with
      | nil => exact absurd hc hkf
      | cons x xs => exact ⟨x, xs, rfl⟩
    obtain ⟨rfl, _, hkl, p, ai, hp, hai, hal, hc⟩ := hc
    have hgd : sts.getD k default = sts[k] := by simp [hkl]
    rw [hgd] at hp hai
    obtain ⟨b, o, rfl, hrow⟩ := hs k hkl
    have hb : b ∉ [gon] := hoff (List.ne_nil_of_length_pos (by omega)) b o rfl
    obtain ⟨a0, a1, a2, a3, a4, a5, _⟩ := hrow
    rw [hp] at a0
    rw [hai] at a1
    have hal' : ai < on'.length := by omega
    have hob1 := hob ai hal'
    have hgd2 : on'.getD ai 0 = on'[ai] := by simp [hal']
    simp only [List.length_cons] at hg
    refine WP.skip ?_
    refine WP.seq ?_
    refine WP.block ?_
    refine WP.seq ?_
    refine WP.region ?_
    refine OPS.val rfl rfl rfl (Ev.mvS rfl) ?_
    refine OPS.val rfl rfl rfl (Ev.mvI rfl) ?_
    refine OPS.val rfl rfl rfl ((by exact Ev.indexAddr (el_run rfl) (size_run rfl) rfl rfl rfl (by omega))) ?_
    refine OPS.val rfl rfl rfl (Ev.fieldAddr (fld_run rfl) rfl) ?_
    refine OPS.val rfl rfl rfl (Ev.load1 (agg_run rfl) rfl (by exact H.ldS (by assumption) (by assumption))) ?_
    refine OPS.nil ?_
    refine WP.cond rfl (fun hc8 => ?_) (fun hc8 => ?_)
    · refine WP.rtail 12 mixed (by kernel_rfl) H ?_
      clear H; intro w hbw9 H
      obtain ⟨_, _, e1, hx⟩ := onesOwn H 1 rfl ai hal'
      cases e1
      refine OPS.val rfl rfl rfl (Ev.fieldAddr (fld_run rfl) rfl) ?_
      refine OPS.val rfl rfl rfl (Ev.load1 (agg_run rfl) rfl (by exact H.ldL 0 rfl _ rfl)) ?_
      refine OPS.val rfl rfl rfl (Ev.mvS rfl) ?_
      refine OPS.val rfl rfl rfl (Ev.mvI rfl) ?_
      refine OPS.val rfl rfl rfl ((by exact Ev.indexAddr (el_run rfl) (size_run rfl) rfl rfl rfl (by omega))) ?_
      refine OPS.val rfl rfl rfl (Ev.fieldAddr (fld_run rfl) rfl) ?_
      refine OPS.val rfl rfl rfl (Ev.load1 (agg_run rfl) rfl (by exact H.ldS (by assumption) (by assumption))) ?_
      refine OPS.val rfl rfl rfl ((by exact Ev.indexAddr1 (el_run rfl) (size_run rfl) rfl rfl rfl (by omega))) ?_
      refine OPS.val rfl rfl rfl (Ev.load1 (agg_run rfl) rfl (by assumption)) ?_
      refine OPS.val rfl rfl rfl (Ev.mvI rfl) ?_
      refine OPS.val rfl rfl rfl (Ev.add rfl rfl (by unfold fits; omega)) ?_
      refine OPS.val rfl rfl rfl ((by exact Ev.indexAddr1 (el_run rfl) (size_run rfl) rfl rfl rfl (by omega))) ?_
      refine OPS.nil_s ?_
      refine OPS.store 1 _ rfl rfl rfl (size_run rfl) rfl (cI rfl) rfl rfl H rfl (by simp; omega) ?_
      clear H; intro w H
      have hpl := putL_ones (enc := I) on' ai (on'[ai] + M)
      rw [Nat.zero_add] at H
      replace H : SH w0 [gon] w [⟨g5, 111, [I n, .slice A la cap, .slice (some ⟨gon, 0, none⟩) on.length cap2]⟩, ⟨gon, 3, putL (on'.map I) ai [I (on'[ai] + M)]⟩] := H
      rw [hpl] at H
      have hp1 : push1 sts M on' k = on'.set ai (on'[ai] + M) := by simp only [push1, hgd, hai, Int.toNat_natCast, hgd2, hc8, if_true]
      refine OPS.nil ?_
      refine WP.region ?_
      refine OPS.val rfl rfl rfl (Ev.mvS rfl) ?_
      refine OPS.val rfl rfl rfl (Ev.mvI rfl) ?_
      refine OPS.val rfl rfl rfl ((by exact Ev.indexAddr (el_run rfl) (size_run rfl) rfl rfl rfl (by omega))) ?_
      refine OPS.val rfl rfl rfl (Ev.fieldAddr (fld_run rfl) rfl) ?_
      refine OPS.val rfl rfl rfl (Ev.load1 (agg_run rfl) rfl (by exact H.ldS (by assumption) (by assumption))) ?_
      refine OPS.val rfl rfl rfl (Ev.asI rfl) ?_
      refine OPS.nil ?_
      rw [← hp1] at H
      refine ⟨(by repeat (first | exact Agree.refl _ _ | exact Agree.mix _ _ _ | refine Agree.upd rfl ?_ | refine Agree.mix2 rfl ?_)), xs.length, by omega, p, push1 sts M on' k, xs, rfl, by omega, rfl, H, hc, by rw [push1_length]; exact hol, by rw [← hpo]; simp only [pushOn, List.foldl_cons], fun i h => ?_⟩
      have hi : i < on'.length := by rw [push1_length] at h; exact h
      have hh := hob i hi
      simp only [hp1, List.getElem_set]
      split
      · rename_i he; subst he; omega
      · omega
    refine WP.rtail 12 mixed (by kernel_rfl) H ?_
    clear H; intro w hbw10 H
    obtain ⟨_, _, e1, hx⟩ := onesOwn H 1 rfl ai hal'
    cases e1
    refine OPS.val rfl rfl rfl (Ev.fieldAddr (fld_run rfl) rfl) ?_
    refine OPS.val rfl rfl rfl (Ev.load1 (agg_run rfl) rfl (by exact H.ldL 0 rfl _ rfl)) ?_
    refine OPS.val rfl rfl rfl (Ev.mvS rfl) ?_
    refine OPS.val rfl rfl rfl (Ev.mvI rfl) ?_
    refine OPS.val rfl rfl rfl ((by exact Ev.indexAddr (el_run rfl) (size_run rfl) rfl rfl rfl (by omega))) ?_
    refine OPS.val rfl rfl rfl (Ev.fieldAddr (fld_run rfl) rfl) ?_
    refine OPS.val rfl rfl rfl (Ev.load1 (agg_run rfl) rfl (by exact H.ldS (by assumption) (by assumption))) ?_
    refine OPS.val rfl rfl rfl ((by exact Ev.indexAddr1 (el_run rfl) (size_run rfl) rfl rfl rfl (by omega))) ?_
    refine OPS.val rfl rfl rfl (Ev.load1 (agg_run rfl) rfl (by assumption)) ?_
    refine OPS.val rfl rfl rfl (Ev.mvI rfl) ?_
    refine OPS.val rfl rfl rfl (Ev.sub rfl rfl (by unfold fits; omega)) ?_
    refine OPS.val rfl rfl rfl ((by exact Ev.indexAddr1 (el_run rfl) (size_run rfl) rfl rfl rfl (by omega))) ?_
    refine OPS.nil_s ?_
    refine OPS.store 1 _ rfl rfl rfl (size_run rfl) rfl (cI rfl) rfl rfl H rfl (by simp; omega) ?_
    clear H; intro w H
    have hpl := putL_ones (enc := I) on' ai (on'[ai] - M)
    rw [Nat.zero_add] at H
    replace H : SH w0 [gon] w [⟨g5, 111, [I n, .slice A la cap, .slice (some ⟨gon, 0, none⟩) on.length cap2]⟩, ⟨gon, 3, putL (on'.map I) ai [I (on'[ai] - M)]⟩] := H
    rw [hpl] at H
    have hp1 : push1 sts M on' k = on'.set ai (on'[ai] - M) := by simp only [push1, hgd, hai, Int.toNat_natCast, hgd2, hc8]; rfl
    refine OPS.nil ?_
    refine WP.region ?_
    refine OPS.val rfl rfl rfl (Ev.mvS rfl) ?_
    refine OPS.val rfl rfl rfl (Ev.mvI rfl) ?_
    refine OPS.val rfl rfl rfl ((by exact Ev.indexAddr (el_run rfl) (size_run rfl) rfl rfl rfl (by omega))) ?_
    refine OPS.val rfl rfl rfl (Ev.fieldAddr (fld_run rfl) rfl) ?_
    refine OPS.val rfl rfl rfl (Ev.load1 (agg_run rfl) rfl (by exact H.ldS (by assumption) (by assumption))) ?_
    refine OPS.val rfl rfl rfl (Ev.asI rfl) ?_
    refine OPS.nil ?_
    rw [← hp1] at H
    refine ⟨(by repeat (first | exact Agree.refl _ _ | exact Agree.mix _ _ _ | refine Agree.upd rfl ?_ | refine Agree.mix2 rfl ?_)), xs.length, by omega, p, push1 sts M on' k, xs, rfl, by omega, rfl, H, hc, by rw [push1_length]; exact hol, by rw [← hpo]; simp only [pushOn, List.foldl_cons], fun i h => ?_⟩
    have hi : i < on'.length := by rw [push1_length] at h; exact h
    have hh := hob i hi
    simp only [hp1, List.getElem_set]
    split
    · rename_i he; subst he; omega
    · omega
  refine WP.exit ?_
  refine XB.hit ?_
  refine WP.seq ?_
  refine WP.region ?_
  refine OPS.val rfl rfl rfl (Ev.mvI rfl) ?_
  refine OPS.val rfl rfl rfl (Ev.asI rfl) ?_
  refine OPS.nil ?_
  refine WP.ret ⟨_, rfl, ?_⟩
  have hkf : k = fn := by simp at hc6; omega
  have hxs : xs = [] := by
    cases xs with
    | nil => rfl
    | cons x xs => exact absurd hkf hc.2.1
  subst hxs
  rw [← hpo]
  exact ⟨rfl, H.drop (List.sublist_cons_self _ _)⟩
end Go.Proofs.Ytgjfjbphngamgaa.Flo
