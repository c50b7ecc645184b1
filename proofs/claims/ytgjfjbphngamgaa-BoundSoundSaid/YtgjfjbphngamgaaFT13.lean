/-
  Walks: price.
-/
import Derived.Test.YtgjfjbphngamgaaFT8
import Derived.Test.YtgjfjbphngamgaaFM4
set_option linter.all false
namespace Go.Proofs.Ytgjfjbphngamgaa.Flo
open Go Go.W Go.RowKit

theorem costOf_take : ∀ (l : List Arc) (on : List Int) (j : Nat) (h : j < l.length) (h2 : j < on.length), costOf (l.take (j + 1)) (on.take (j + 1)) = costOf (l.take j) (on.take j) + on[j] * l[j].cost
  | [], _, _, h, _ => by simp at h
  | _ :: _, [], _, _, h => by simp at h
  | a :: l, x :: on, 0, _, _ => by simp [costOf]
  | a :: l, x :: on, j + 1, h, h2 => by
    simp only [List.take_succ_cons, costOf, List.getElem_cons_succ]
    have := costOf_take l on j (by simpa using h) (by simpa using h2)
    rw [this]; omega
theorem mul_bd {x c : Int} (h0 : 0 ≤ x) (h1 : x ≤ 65536) (h2 : 0 ≤ c) (h3 : c ≤ 65536) : 0 ≤ x * c ∧ x * c ≤ 4294967296 :=
  ⟨Int.mul_nonneg h0 h2, Int.le_trans (Int.mul_le_mul h1 h3 h2 (by omega)) (by omega)⟩
theorem costOf_bd {n : Nat} {l : List Arc} {on : List Int} (hN : NetOk n l) (hV : VFlow l on) : ∀ j, j ≤ l.length → 0 ≤ costOf (l.take j) (on.take j) ∧ costOf (l.take j) (on.take j) ≤ 4294967296 * j
  | 0, _ => by simp [costOf]
  | j + 1, h => by
    have ih := costOf_bd hN hV j (by omega)
    have hl := hV.len
    have h1 := hV.bd j (by omega) (by omega)
    have h2 := hN.caps l[j] (List.getElem_mem _)
    have h3 := mul_bd h1.1 (by omega) h2.2.1 h2.2.2
    rw [costOf_take l on j (by omega) (by omega)]
    omega

theorem flowPrice (n : Nat) (A B : Option Addr) (l : List Arc) (on : List Int) (cap cap2 : Nat) (w0 : World) (hN : NetOk n l) (hV : VFlow l on) (hz : ArcsAt w0 A l) (ho : IntsAt w0 B on) :
    Calls Try.prog 60 #[.agg #[I n, .slice A l.length cap], .slice B on.length cap2] w0 fun e w' => e = .returned (I (costOf l on)) ∧ Below w0.heap.size w0 w' := by
  have H := SH.refl w0
  have hl := hV.len
  have hll := hN.len
  refine Calls.ofWP Try.func60 rfl Try.results60 Try.ntmps60 rfl ?_
  refine WP.seq ?_
  refine WP.region ?_
  refine OPS.box rfl rfl rfl rfl (cA rfl) H ?_
  clear H; intro g2 w H
  refine OPS.val rfl rfl rfl (Ev.asI rfl) ?_
  refine OPS.nil ?_
  refine WP.seq ?_
  refine WP.region ?_
  refine OPS.val rfl rfl rfl (Ev.asI rfl) ?_
  refine OPS.nil ?_
  refine WP.seq ?_
  refine WP.seq ?_
  refine WP.region ?_
  refine OPS.val rfl rfl rfl (Ev.fieldAddr (fld_run rfl) rfl) ?_
  refine OPS.val rfl rfl rfl (Ev.load1 (agg_run rfl) rfl (by exact H.ldL 0 rfl _ rfl)) ?_
  refine OPS.val rfl rfl rfl (Ev.len (el_run rfl) rfl) ?_
  refine OPS.val rfl rfl rfl (Ev.mvI rfl) ?_
  refine OPS.nil ?_
  refine WP.block ?_
  refine WP.loop [5, 6, 7, 11, 12, 13, 14, 15, 16, 17, 18, 19, 20, 21, 22, 23, 24, 25] (fun k e w' => ∃ j : Nat, j + k = l.length ∧ e 11 = I j ∧ e 5 = I (costOf (l.take j) (on.take j)) ∧ SH w0 [] w' [⟨g2, 76, [I n, .slice A l.length cap]⟩]) (l.length) (⟨0, by omega, rfl, rfl, H⟩) ?_
  clear H
  rintro k u w ⟨j, hk, h11, h5, H⟩
  refine WP.know (t := 11) h11 (WP.know (t := 5) h5 ?_)
  refine WP.seq ?_
  refine WP.region ?_
  refine OPS.val rfl rfl rfl (Ev.lss rfl rfl) ?_
  refine OPS.nil ?_
  refine WP.seq ?_
  refine WP.cond rfl (fun hc3 => ?_) (fun hc3 => ?_)
  · have hlt : j < l.length := by simpa using hc3
    obtain ⟨b, o, rfl, hc⟩ := hz j hlt
    obtain ⟨b2, o2, rfl, hx⟩ := ho j (by omega)
    have hc' := cellsAt_sh H hc
    have h1 := hV.bd j hlt (by omega)
    have h2 := hN.caps l[j] (List.getElem_mem _)
    have h3 := mul_bd h1.1 (by omega) h2.2.1 h2.2.2
    have h4 := costOf_bd hN hV j (by omega)
    refine WP.skip ?_
    refine WP.seq ?_
    refine WP.block ?_
    refine WP.seq ?_
    refine WP.region ?_
    refine OPS.val rfl rfl rfl (Ev.mvI rfl) ?_
    refine OPS.val rfl rfl rfl ((by exact Ev.indexAddr (el_run rfl) (size_run rfl) rfl rfl rfl (by omega))) ?_
    refine OPS.val rfl rfl rfl ((by (change Ev _ _ _ _ (Op.load 96 (Operand.tmp 14)) _; exact Ev.loadN (arcCells l[j]) (agg_run rfl) (size_run rfl) rfl hc'))) ?_
    refine OPS.alloc rfl rfl rfl rfl (zero_run rfl) rfl H ?_
    clear H; intro g7 w H
    refine OPS.val rfl rfl rfl (Ev.asI rfl) ?_
    refine OPS.store 0 _ rfl rfl rfl (size_run rfl) rfl (cA rfl) rfl rfl H rfl (by simp) ?_
    clear H; intro w H; try simp only [List.set_cons_zero, List.set_cons_succ, putL, Nat.zero_add] at H
    refine OPS.nil ?_
    refine WP.rstill mixed (by kernel_rfl) H ?_
    clear H; intro w hbw5 H
    refine OPS.val rfl rfl rfl (Ev.mvI rfl) ?_
    refine OPS.val rfl rfl rfl (Ev.mvS rfl) ?_
    refine OPS.val rfl rfl rfl (Ev.mvI rfl) ?_
    refine OPS.val rfl rfl rfl ((by exact Ev.indexAddr1 (el_run rfl) (size_run rfl) rfl rfl rfl (by omega))) ?_
    refine OPS.val rfl rfl rfl (Ev.load1 (agg_run rfl) rfl (by exact H.ld0 (by assumption))) ?_
    refine OPS.val rfl rfl rfl (Ev.fieldAddr (fld_run rfl) rfl) ?_
    refine OPS.val rfl rfl rfl (Ev.load1 (agg_run rfl) rfl (by exact H.ldL 0 rfl _ rfl)) ?_
    refine OPS.val rfl rfl rfl (Ev.mul rfl rfl (by unfold fits; omega)) ?_
    refine OPS.val rfl rfl rfl (Ev.add rfl rfl (by unfold fits; omega)) ?_
    refine OPS.val rfl rfl rfl (Ev.asI rfl) ?_
    refine OPS.nil_s ?_
    refine WP.region ?_
    refine OPS.val rfl rfl rfl (Ev.add rfl rfl (by unfold fits; omega)) ?_
    refine OPS.val rfl rfl rfl (Ev.mvI rfl) ?_
    refine OPS.nil ?_
    exact ⟨(by repeat (first | exact Agree.refl _ _ | exact Agree.mix _ _ _ | refine Agree.upd rfl ?_ | refine Agree.mix2 rfl ?_)), k - 1, by omega, j + 1, by omega, rfl, by rw [costOf_take l on j hlt (by omega)]; rfl, H.drop (List.sublist_cons_self _ _)⟩
  refine WP.exit ?_
  refine XB.hit ?_
  refine WP.seq ?_
  refine WP.region ?_
  refine OPS.val rfl rfl rfl (Ev.mvI rfl) ?_
  refine OPS.val rfl rfl rfl (Ev.asI rfl) ?_
  refine OPS.nil ?_
  refine WP.ret ⟨_, rfl, ?_⟩
  have hj : j = l.length := by simp at hc3; omega
  subst hj
  rw [List.take_length, ← hl, List.take_length]
  exact ⟨rfl, H.below⟩
end Go.Proofs.Ytgjfjbphngamgaa.Flo
