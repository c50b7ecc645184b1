/-
  Walks: residue.each (whatever function it calls), the function that reach hands to it, reach.
-/
import Derived.Test.YthegjmgljolalaaT3
import Derived.Test.YthegjmgljolalaaElems
set_option linter.all false
namespace Go.Proofs.Ythegjmgljolalaa
open Go Go.W Go.RowKit

instance : Inhabited Arc := ⟨⟨0, 0, 0, 0⟩⟩
abbrev VisF (σ : Type) := σ → Int → Int → Nat → Int → Int → Bool → σ
def eachF {σ : Type} (vis : VisF σ) (i : Nat) (a : Arc) (x : Int) (s : σ) : σ := if x < a.cap then vis s a.f a.t i (a.cap - x) a.cost true else s
def eachB {σ : Type} (vis : VisF σ) (i : Nat) (a : Arc) (x : Int) (s : σ) : σ := if 0 < x then vis s a.t a.f i x (-a.cost) false else s
/-- what 'each' does to a state: the first k arcs -/
def eachM {σ : Type} (vis : VisF σ) (l : List Arc) (on : List Int) : Nat → σ → σ
  | 0, s => s
  | k + 1, s => eachB vis k (l.getD k default) (on.getD k 0) (eachF vis k (l.getD k default) (on.getD k 0) (eachM vis l on k s))
theorem eachM_succ {σ : Type} (vis : VisF σ) (l : List Arc) (on : List Int) (k : Nat) (s : σ) (h : k < l.length) (h2 : k < on.length) :
    eachM vis l on (k + 1) s = eachB vis k l[k] on[k] (eachF vis k l[k] on[k] (eachM vis l on k s)) := by
  rw [eachM]; simp [h, h2]

set_option maxHeartbeats 1000000 in
theorem flowEach {σ : Type} (vis : VisF σ) (Lv : σ → List Blk) (gs : List Nat) (hgs : ∀ s, (Lv s).map (·.g) = gs) (Inv : σ → Prop) (fv : Nat) (caps : List Value)
    (n : Int) (A B : Option Addr) (l : List Arc) (on : List Int) (cap cap2 : Nat) (s0 : σ) (w0 : World)
    (hfun : funT fv = true)
    (hz : ArcsAt w0 A l) (hA : l ≠ [] → Off A gs) (ho : IntsAt w0 B on) (hB : on ≠ [] → Off B gs) (hlen : on.length = l.length) (hl : l.length ≤ 4096)
    (hcap : ∀ i (h : i < l.length), -1000000 ≤ l[i].cap ∧ l[i].cap ≤ 1000000 ∧ -1000000 ≤ l[i].cost ∧ l[i].cost ≤ 1000000) (hon : ∀ i (h : i < on.length), -1000000000 ≤ on[i] ∧ on[i] ≤ 1000000000)
    (hvF : ∀ i (h : i < l.length) (h2 : i < on.length) s w, Inv s → on[i] < l[i].cap → SH w gs w (Lv s) → Calls Try.prog fv ([I l[i].f, I l[i].t, I i, I (l[i].cap - on[i]), I l[i].cost, .bool true] ++ caps).toArray w fun e w' => e = .returned (.tuple #[]) ∧ SH w gs w' (Lv (vis s l[i].f l[i].t i (l[i].cap - on[i]) l[i].cost true)))
    (hiF : ∀ i (h : i < l.length) (h2 : i < on.length) s, Inv s → on[i] < l[i].cap → Inv (vis s l[i].f l[i].t i (l[i].cap - on[i]) l[i].cost true))
    (hvB : ∀ i (h : i < l.length) (h2 : i < on.length) s w, Inv s → 0 < on[i] → SH w gs w (Lv s) → Calls Try.prog fv ([I l[i].t, I l[i].f, I i, I on[i], I (-l[i].cost), .bool false] ++ caps).toArray w fun e w' => e = .returned (.tuple #[]) ∧ SH w gs w' (Lv (vis s l[i].t l[i].f i on[i] (-l[i].cost) false)))
    (hiB : ∀ i (h : i < l.length) (h2 : i < on.length) s, Inv s → 0 < on[i] → Inv (vis s l[i].t l[i].f i on[i] (-l[i].cost) false))
    (hs0 : Inv s0) (H0 : SH w0 gs w0 (Lv s0)) :
    Calls Try.prog 40 #[.agg #[I n, .slice A l.length cap, .slice B on.length cap2], .func (.func fv) #[] caps.toArray] w0 fun e w' => e = .returned (.tuple #[]) ∧ SH w0 gs w' (Lv (eachM vis l on l.length s0)) := by
  have H := H0
  refine Calls.ofWP Try.func40 rfl Try.results40 Try.ntmps40 rfl ?_
  refine WP.seq ?_
  refine WP.region ?_
  refine OPS.box rfl rfl rfl rfl (cA rfl) H ?_
  clear H; intro g2 w H
  refine OPS.nil ?_
  refine WP.seq ?_
  refine WP.region ?_
  refine OPS.val rfl rfl rfl (Ev.fieldAddr (fld_run rfl) rfl) ?_
  refine OPS.val rfl rfl rfl (Ev.fieldAddr (fld_run rfl) rfl) ?_
  refine OPS.val rfl rfl rfl (Ev.load1 (agg_run rfl) rfl (by exact H.ldL 0 rfl _ rfl)) ?_
  refine OPS.val rfl rfl rfl (Ev.len (el_run rfl) rfl) ?_
  refine OPS.val rfl rfl rfl (Ev.mvI rfl) ?_
  refine OPS.nil ?_
  refine WP.block ?_
  refine WP.loop [4, 5, 10, 11, 12, 13, 14, 15, 16, 17, 18, 19, 20, 21, 22, 23, 24, 25, 26, 27, 28, 29, 30, 31, 32, 33, 34, 35, 36, 37, 38, 39, 40, 41, 42, 43, 44, 45, 46, 47, 48, 49, 50, 51, 52, 53, 54, 55, 56, 57, 58, 59, 60, 61] (fun k e w' => ∃ j : Nat, j + k = l.length ∧ e 10 = .int .i64 j ∧ SH w0 gs w' ([⟨g2, 52, [I n, .slice A l.length cap, .slice B on.length cap2]⟩] ++ Lv (eachM vis l on j s0)) ∧ Inv (eachM vis l on j s0)) (l.length) (⟨0, by omega, rfl, H, hs0⟩) ?_
  clear H
  rintro k u w ⟨j, hk, h10, H, hi⟩
  refine WP.know (t := 10) h10 ?_
  generalize hs : eachM vis l on j s0 = s at H hi
  refine WP.seq ?_
  refine WP.region ?_
  refine OPS.val rfl rfl rfl (Ev.lss rfl rfl) ?_
  refine OPS.nil ?_
  refine WP.seq ?_
  refine WP.cond rfl (fun hc2 => ?_) (fun hc2 => ?_)
  · have hlt : j < l.length := by simpa using hc2
    have hlt2 : j < on.length := by omega
    obtain ⟨b, o, rfl, hc⟩ := hz j hlt
    obtain ⟨b2, o2, rfl, hx⟩ := ho j hlt2
    have hbS : b ∉ gs := hA (List.ne_nil_of_length_pos (by omega)) b o rfl
    have hbS2 : b2 ∉ gs := hB (List.ne_nil_of_length_pos (by omega)) b2 o2 rfl
    have hc' := cellsAt_shS H hbS hc
    have hcb := hcap j hlt
    have hob := hon j hlt2
    refine WP.skip ?_
    refine WP.seq ?_
    refine WP.block ?_
    refine WP.seq ?_
    refine WP.region ?_
    refine OPS.val rfl rfl rfl (Ev.mvI rfl) ?_
    refine OPS.val rfl rfl rfl ((by exact Ev.indexAddr (el_run rfl) (size_run rfl) rfl rfl rfl (by omega))) ?_
    refine OPS.val rfl rfl rfl ((by (change Ev _ _ _ _ (Op.load 46 (Operand.tmp 13)) _; exact Ev.loadN (arcCells l[j]) (agg_run rfl) (size_run rfl) rfl hc'))) ?_
    refine OPS.alloc rfl rfl rfl rfl (zero_run rfl) rfl H ?_
    clear H; intro g5 w H
    refine OPS.val rfl rfl rfl (Ev.asI rfl) ?_
    refine OPS.store 0 _ rfl rfl rfl (size_run rfl) rfl (cA rfl) rfl rfl H rfl (by simp) ?_
    clear H; intro w H; try simp only [List.set_cons_zero, List.set_cons_succ, putL, Nat.zero_add] at H
    refine OPS.nil ?_
    refine WP.seq ?_
    refine WP.seq ?_
    refine WP.rstill mixed (by kernel_rfl) H ?_
    clear H; intro w hbw4 H
    refine OPS.val rfl rfl rfl (Ev.fieldAddr (fld_run rfl) rfl) ?_
    refine OPS.val rfl rfl rfl (Ev.load1 (agg_run rfl) rfl (by exact H.ldL 1 rfl _ rfl)) ?_
    refine OPS.val rfl rfl rfl (Ev.mvI rfl) ?_
    refine OPS.val rfl rfl rfl ((by exact Ev.indexAddr1 (el_run rfl) (size_run rfl) rfl rfl rfl (by omega))) ?_
    refine OPS.val rfl rfl rfl (Ev.load1 (agg_run rfl) rfl (by exact H.ldS (by assumption) (by assumption))) ?_
    refine OPS.val rfl rfl rfl (Ev.fieldAddr (fld_run rfl) rfl) ?_
    refine OPS.val rfl rfl rfl (Ev.load1 (agg_run rfl) rfl (by exact H.ldL 0 rfl _ rfl)) ?_
    refine OPS.val rfl rfl rfl (Ev.lss rfl rfl) ?_
    refine OPS.nil_s ?_
    refine WP.cond rfl (fun hc4 => ?_) (fun hc4 => ?_)
    · refine WP.rtail 16 mixed (by kernel_rfl) H ?_
      clear H; intro w hbw5 H
      refine OPS.val rfl rfl rfl (Ev.mvF rfl) ?_
      refine OPS.val rfl rfl rfl (Ev.fieldAddr (fld_run rfl) rfl) ?_
      refine OPS.val rfl rfl rfl (Ev.load1 (agg_run rfl) rfl (by exact H.ldL 0 rfl _ rfl)) ?_
      refine OPS.val rfl rfl rfl (Ev.fieldAddr (fld_run rfl) rfl) ?_
      refine OPS.val rfl rfl rfl (Ev.load1 (agg_run rfl) rfl (by exact H.ldL 0 rfl _ rfl)) ?_
      refine OPS.val rfl rfl rfl (Ev.mvI rfl) ?_
      refine OPS.val rfl rfl rfl (Ev.fieldAddr (fld_run rfl) rfl) ?_
      refine OPS.val rfl rfl rfl (Ev.load1 (agg_run rfl) rfl (by exact H.ldL 0 rfl _ rfl)) ?_
      refine OPS.val rfl rfl rfl (Ev.fieldAddr (fld_run rfl) rfl) ?_
      refine OPS.val rfl rfl rfl (Ev.load1 (agg_run rfl) rfl (by exact H.ldL 1 rfl _ rfl)) ?_
      refine OPS.val rfl rfl rfl (Ev.mvI rfl) ?_
      refine OPS.val rfl rfl rfl ((by exact Ev.indexAddr1 (el_run rfl) (size_run rfl) rfl rfl rfl (by omega))) ?_
      refine OPS.val rfl rfl rfl (Ev.load1 (agg_run rfl) rfl (by exact H.ldS (by assumption) (by assumption))) ?_
      refine OPS.val rfl rfl rfl (Ev.sub rfl rfl (by unfold fits; omega)) ?_
      refine OPS.val rfl rfl rfl (Ev.fieldAddr (fld_run rfl) rfl) ?_
      refine OPS.val rfl rfl rfl (Ev.load1 (agg_run rfl) rfl (by exact H.ldL 0 rfl _ rfl)) ?_
      refine OPS.nil_s ?_
      refine OPS.call (d := some 39) rfl rfl rfl (EvC.clos rfl (fun_run (by assumption))) (hvF j hlt hlt2 s _ hi (by simpa using hc4) (by rw [← hgs s]; exact H.restart ((List.sublist_cons_self _ _).trans (List.sublist_cons_self _ _)))) ?_
      rintro _ w ⟨rfl, Hc⟩
      refine ⟨_, rfl, ?_⟩
      replace H := SH.call (L1 := [⟨g5, 46, arcCells l[j]⟩, ⟨g2, 52, [I n, .slice (some ⟨b, o, none⟩) l.length cap, .slice (some ⟨b2, o2, none⟩) on.length cap2]⟩]) H (by rw [hgs s]; exact Hc)
      clear Hc
      replace hi := hiF j hlt hlt2 s hi (by simpa using hc4)
      have hs1 : eachF vis j l[j] on[j] s = vis s l[j].f l[j].t j (l[j].cap - on[j]) l[j].cost true := if_pos (by simpa using hc4)
      generalize vis s l[j].f l[j].t j (l[j].cap - on[j]) l[j].cost true = s1 at H hi hs1
      refine OPS.nil ?_
      refine WP.seq ?_
      refine WP.region ?_
      refine OPS.val rfl rfl rfl (Ev.fieldAddr (fld_run rfl) rfl) ?_
      refine OPS.val rfl rfl rfl (Ev.load1 (agg_run rfl) rfl (by exact H.ldL 1 rfl _ rfl)) ?_
      refine OPS.val rfl rfl rfl (Ev.mvI rfl) ?_
      refine OPS.val rfl rfl rfl ((by exact Ev.indexAddr1 (el_run rfl) (size_run rfl) rfl rfl rfl (by omega))) ?_
      refine OPS.val rfl rfl rfl (Ev.load1 (agg_run rfl) rfl (by exact H.ldS (by assumption) (by assumption))) ?_
      refine OPS.val rfl rfl rfl (Ev.gtr rfl rfl) ?_
      refine OPS.nil ?_
      refine WP.cond rfl (fun hc6 => ?_) (fun hc6 => ?_)
      · refine WP.rtail 14 mixed (by kernel_rfl) H ?_
        clear H; intro w hbw7 H
        refine OPS.val rfl rfl rfl (Ev.mvF rfl) ?_
        refine OPS.val rfl rfl rfl (Ev.fieldAddr (fld_run rfl) rfl) ?_
        refine OPS.val rfl rfl rfl (Ev.load1 (agg_run rfl) rfl (by exact H.ldL 0 rfl _ rfl)) ?_
        refine OPS.val rfl rfl rfl (Ev.fieldAddr (fld_run rfl) rfl) ?_
        refine OPS.val rfl rfl rfl (Ev.load1 (agg_run rfl) rfl (by exact H.ldL 0 rfl _ rfl)) ?_
        refine OPS.val rfl rfl rfl (Ev.mvI rfl) ?_
        refine OPS.val rfl rfl rfl (Ev.fieldAddr (fld_run rfl) rfl) ?_
        refine OPS.val rfl rfl rfl (Ev.load1 (agg_run rfl) rfl (by exact H.ldL 1 rfl _ rfl)) ?_
        refine OPS.val rfl rfl rfl (Ev.mvI rfl) ?_
        refine OPS.val rfl rfl rfl ((by exact Ev.indexAddr1 (el_run rfl) (size_run rfl) rfl rfl rfl (by omega))) ?_
        refine OPS.val rfl rfl rfl (Ev.load1 (agg_run rfl) rfl (by exact H.ldS (by assumption) (by assumption))) ?_
        refine OPS.val rfl rfl rfl (Ev.fieldAddr (fld_run rfl) rfl) ?_
        refine OPS.val rfl rfl rfl (Ev.load1 (agg_run rfl) rfl (by exact H.ldL 0 rfl _ rfl)) ?_
        refine OPS.val rfl rfl rfl (Ev.neg rfl (by unfold fits; omega)) ?_
        refine OPS.nil_s ?_
        refine OPS.call (d := some 60) rfl rfl rfl (EvC.clos rfl (fun_run (by assumption))) (hvB j hlt hlt2 s1 _ hi (by simpa using hc6) (by rw [← hgs s1]; exact H.restart ((List.sublist_cons_self _ _).trans (List.sublist_cons_self _ _)))) ?_
        rintro _ w ⟨rfl, Hc⟩
        refine ⟨_, rfl, ?_⟩
        replace H := SH.call (L1 := [⟨g5, 46, arcCells l[j]⟩, ⟨g2, 52, [I n, .slice (some ⟨b, o, none⟩) l.length cap, .slice (some ⟨b2, o2, none⟩) on.length cap2]⟩]) H (by rw [hgs s1]; exact Hc)
        clear Hc
        replace hi := hiB j hlt hlt2 s1 hi (by simpa using hc6)
        have hs2 : eachB vis j l[j] on[j] s1 = vis s1 l[j].t l[j].f j on[j] (-l[j].cost) false := if_pos (by simpa using hc6)
        refine OPS.nil ?_
        refine WP.region ?_
        refine OPS.val rfl rfl rfl (Ev.add rfl rfl (by unfold fits; omega)) ?_
        refine OPS.val rfl rfl rfl (Ev.mvI rfl) ?_
        refine OPS.nil ?_
        have hfin : eachM vis l on (j + 1) s0 = eachB vis j l[j] on[j] s1 := by
          rw [eachM_succ vis l on j s0 hlt hlt2, hs]
          rw [hs1]
        refine ⟨(by repeat (first | exact Agree.refl _ _ | exact Agree.mix _ _ _ | refine Agree.upd rfl ?_ | refine Agree.mix2 rfl ?_)), k - 1, by omega, j + 1, by omega, rfl, ?_, ?_⟩
        · rw [hfin, hs2]; exact H.drop (List.sublist_cons_self _ _)
        · rw [hfin, hs2]; exact hi
      have hs2 : eachB vis j l[j] on[j] s1 = s1 := if_neg (by simpa using hc6)
      refine WP.skip ?_
      refine WP.region ?_
      refine OPS.val rfl rfl rfl (Ev.add rfl rfl (by unfold fits; omega)) ?_
      refine OPS.val rfl rfl rfl (Ev.mvI rfl) ?_
      refine OPS.nil ?_
      have hfin : eachM vis l on (j + 1) s0 = eachB vis j l[j] on[j] s1 := by
        rw [eachM_succ vis l on j s0 hlt hlt2, hs]
        rw [hs1]
      refine ⟨(by repeat (first | exact Agree.refl _ _ | exact Agree.mix _ _ _ | refine Agree.upd rfl ?_ | refine Agree.mix2 rfl ?_)), k - 1, by omega, j + 1, by omega, rfl, ?_, ?_⟩
      · rw [hfin, hs2]; exact H.drop (List.sublist_cons_self _ _)
      · rw [hfin, hs2]; exact hi
    have hs1 : eachF vis j l[j] on[j] s = s := if_neg (by simpa using hc4)
    generalize hss : s = s1 at H hi
    rw [hss] at hs1
    refine WP.skip ?_
    refine WP.seq ?_
    refine WP.region ?_
    refine OPS.val rfl rfl rfl (Ev.fieldAddr (fld_run rfl) rfl) ?_
    refine OPS.val rfl rfl rfl (Ev.load1 (agg_run rfl) rfl (by exact H.ldL 1 rfl _ rfl)) ?_
    refine OPS.val rfl rfl rfl (Ev.mvI rfl) ?_
    refine OPS.val rfl rfl rfl ((by exact Ev.indexAddr1 (el_run rfl) (size_run rfl) rfl rfl rfl (by omega))) ?_
    refine OPS.val rfl rfl rfl (Ev.load1 (agg_run rfl) rfl (by exact H.ldS (by assumption) (by assumption))) ?_
    refine OPS.val rfl rfl rfl (Ev.gtr rfl rfl) ?_
    refine OPS.nil ?_
    refine WP.cond rfl (fun hc6 => ?_) (fun hc6 => ?_)
    · refine WP.rtail 14 mixed (by kernel_rfl) H ?_
      clear H; intro w hbw7 H
      refine OPS.val rfl rfl rfl (Ev.mvF rfl) ?_
      refine OPS.val rfl rfl rfl (Ev.fieldAddr (fld_run rfl) rfl) ?_
      refine OPS.val rfl rfl rfl (Ev.load1 (agg_run rfl) rfl (by exact H.ldL 0 rfl _ rfl)) ?_
      refine OPS.val rfl rfl rfl (Ev.fieldAddr (fld_run rfl) rfl) ?_
      refine OPS.val rfl rfl rfl (Ev.load1 (agg_run rfl) rfl (by exact H.ldL 0 rfl _ rfl)) ?_
      refine OPS.val rfl rfl rfl (Ev.mvI rfl) ?_
      refine OPS.val rfl rfl rfl (Ev.fieldAddr (fld_run rfl) rfl) ?_
      refine OPS.val rfl rfl rfl (Ev.load1 (agg_run rfl) rfl (by exact H.ldL 1 rfl _ rfl)) ?_
      refine OPS.val rfl rfl rfl (Ev.mvI rfl) ?_
      refine OPS.val rfl rfl rfl ((by exact Ev.indexAddr1 (el_run rfl) (size_run rfl) rfl rfl rfl (by omega))) ?_
      refine OPS.val rfl rfl rfl (Ev.load1 (agg_run rfl) rfl (by exact H.ldS (by assumption) (by assumption))) ?_
      refine OPS.val rfl rfl rfl (Ev.fieldAddr (fld_run rfl) rfl) ?_
      refine OPS.val rfl rfl rfl (Ev.load1 (agg_run rfl) rfl (by exact H.ldL 0 rfl _ rfl)) ?_
      refine OPS.val rfl rfl rfl (Ev.neg rfl (by unfold fits; omega)) ?_
      refine OPS.nil_s ?_
      refine OPS.call (d := some 60) rfl rfl rfl (EvC.clos rfl (fun_run (by assumption))) (hvB j hlt hlt2 s1 _ hi (by simpa using hc6) (by rw [← hgs s1]; exact H.restart ((List.sublist_cons_self _ _).trans (List.sublist_cons_self _ _)))) ?_
      rintro _ w ⟨rfl, Hc⟩
      refine ⟨_, rfl, ?_⟩
      replace H := SH.call (L1 := [⟨g5, 46, arcCells l[j]⟩, ⟨g2, 52, [I n, .slice (some ⟨b, o, none⟩) l.length cap, .slice (some ⟨b2, o2, none⟩) on.length cap2]⟩]) H (by rw [hgs s1]; exact Hc)
      clear Hc
      replace hi := hiB j hlt hlt2 s1 hi (by simpa using hc6)
      have hs2 : eachB vis j l[j] on[j] s1 = vis s1 l[j].t l[j].f j on[j] (-l[j].cost) false := if_pos (by simpa using hc6)
      refine OPS.nil ?_
      refine WP.region ?_
      refine OPS.val rfl rfl rfl (Ev.add rfl rfl (by unfold fits; omega)) ?_
      refine OPS.val rfl rfl rfl (Ev.mvI rfl) ?_
      refine OPS.nil ?_
      have hfin : eachM vis l on (j + 1) s0 = eachB vis j l[j] on[j] s1 := by
        rw [eachM_succ vis l on j s0 hlt hlt2, hs]
        rw [hss, hs1]
      refine ⟨(by repeat (first | exact Agree.refl _ _ | exact Agree.mix _ _ _ | refine Agree.upd rfl ?_ | refine Agree.mix2 rfl ?_)), k - 1, by omega, j + 1, by omega, rfl, ?_, ?_⟩
      · rw [hfin, hs2]; exact H.drop (List.sublist_cons_self _ _)
      · rw [hfin, hs2]; exact hi
    have hs2 : eachB vis j l[j] on[j] s1 = s1 := if_neg (by simpa using hc6)
    refine WP.skip ?_
    refine WP.region ?_
    refine OPS.val rfl rfl rfl (Ev.add rfl rfl (by unfold fits; omega)) ?_
    refine OPS.val rfl rfl rfl (Ev.mvI rfl) ?_
    refine OPS.nil ?_
    have hfin : eachM vis l on (j + 1) s0 = eachB vis j l[j] on[j] s1 := by
      rw [eachM_succ vis l on j s0 hlt hlt2, hs]
      rw [hss, hs1]
    refine ⟨(by repeat (first | exact Agree.refl _ _ | exact Agree.mix _ _ _ | refine Agree.upd rfl ?_ | refine Agree.mix2 rfl ?_)), k - 1, by omega, j + 1, by omega, rfl, ?_, ?_⟩
    · rw [hfin, hs2]; exact H.drop (List.sublist_cons_self _ _)
    · rw [hfin, hs2]; exact hi
  refine WP.exit ?_
  refine XB.hit ?_
  refine ⟨_, rfl, ?_⟩
  have : j = l.length := by simp at hc2; omega
  subst this
  rw [hs]
  exact ⟨rfl, H.drop (List.sublist_cons_self _ _)⟩
end Go.Proofs.Ythegjmgljolalaa
