/-
  Walk: suppress.interval.
-/
import Derived.Test.YtmkgfgnpgoegcaaT10
set_option linter.all false
namespace Go.Proofs.Ytmkgfgnpgoegcaa
open Go Go.W Go.RowKit

def ZsOk (zs : List Int) : Prop := ∀ k (hk : k < zs.length), 0 ≤ zs[k] ∧ zs[k] ≤ 65536
theorem netArcs_ok {r c : Int} {zs : List Int} {hid : List Bool} {but : Int} (hr : TblRange r c) (hl : (zs.length : Int) = r * c) (hZ : ZsOk zs) : ∀ k, k ≤ zs.length → ∀ a ∈ netArcs r c zs hid but k, arcBad (r + c) a = false ∧ arcRange a = false
  | 0, _, a, ha => by cases ha
  | k + 1, hk, a, ha => by
    rw [netArcs] at ha
    rcases List.mem_append.1 ha with ha | ha
    · exact netArcs_ok hr hl hZ k (by omega) a ha
    · obtain ⟨r1, r2, c1, c2⟩ := hr
      have hm : 0 ≤ (k : Int) % c ∧ (k : Int) % c < c := ⟨Int.emod_nonneg _ (by omega), Int.emod_lt_of_pos _ (by omega)⟩
      have hq : 0 ≤ (k : Int) / c := Int.ediv_nonneg (by omega) (by omega)
      have hq2 : (k : Int) / c < r := Int.ediv_lt_of_lt_mul (by omega) (by omega)
      have hx := hZ k (by omega)
      split at ha
      · simp only [cellArcs, List.getD_eq_getElem?_getD, List.getElem?_eq_getElem (show k < zs.length by omega), Option.getD_some, List.mem_cons, List.not_mem_nil, or_false] at ha
        rcases ha with rfl | rfl <;> simp [arcBad, arcRange, isNode] <;> omega
      · cases ha
theorem arcsErr_zero {n : Int} : ∀ {l : List Arc}, (∀ a ∈ l, arcBad n a = false ∧ arcRange a = false) → arcsErr n l = 0
  | [], _ => rfl
  | b :: l, h => by
    have h1 := h b (by simp)
    rw [arcsErr, if_neg (by simp [h1.1]), if_neg (by simp [h1.2])]
    exact arcsErr_zero fun a ha => h a (by simp [ha])
theorem ends_ok {r c : Int} {zs : List Int} {hid : List Bool} {but : Int} (hr : TblRange r c) (hl : (zs.length : Int) = r * c) (hZ : ZsOk zs) {f t : Int} (hf : 0 ≤ f ∧ f < r + c) (ht : 0 ≤ t ∧ t < r + c) (hne : f ≠ t) : endsErr (r + c) (netArcs r c zs hid but zs.length) f t = 0 := by
  have h1 := netArcs_ok (hid := hid) (but := but) hr hl hZ zs.length (Nat.le_refl _)
  have h2 := netArcs_len r c zs hid but zs.length
  have hb := mul_bd hr
  obtain ⟨r1, r2, c1, c2⟩ := hr
  have h0 : netErr (r + c) (netArcs r c zs hid but zs.length) = 0 := by
    unfold netErr
    rw [if_neg (by simp; omega), if_neg (by omega)]
    exact arcsErr_zero h1
  unfold endsErr
  rw [h0]
  simp [isNode, hf.1, hf.2, ht.1, ht.2, hne]

theorem most_ok {r c : Int} {zs : List Int} {hid : List Bool} {but : Int} (hr : TblRange r c) (hl : (zs.length : Int) = r * c) (hZ : ZsOk zs) {f t g e : Int} (hf : 0 ≤ f ∧ f < r + c) (ht : 0 ≤ t ∧ t < r + c) (hne : f ≠ t) (h : MostRet (r + c) f t (netArcs r c zs hid but zs.length) g e) :
    (∃ m : Nat, r + c = m ∧ IsMax m (netArcs r c zs hid but zs.length) f t g) ∧ 0 ≤ g ∧ g ≤ 8388608 := by
  have h0 := ends_ok (hid := hid) (but := but) hr hl hZ hf ht hne
  have h2 := netArcs_len r c zs hid but zs.length
  have hb := mul_bd hr
  obtain ⟨he, _, h1⟩ := h
  obtain ⟨m, hm, hM⟩ := h1 (by rw [he, h0])
  have hcap : ∀ a ∈ netArcs r c zs hid but zs.length, 0 ≤ a.cap ∧ a.cap ≤ 65536 := fun a ha => by
    have := (netArcs_ok hr hl hZ zs.length (Nat.le_refl _) a ha).2
    simp [arcRange] at this; omega
  refine ⟨⟨m, hm, hM⟩, ?_⟩
  obtain ⟨_, S, _, _, hS⟩ := hM
  have a1 := cutCap_nonneg S (netArcs r c zs hid but zs.length) fun a ha => (hcap a ha).1
  have a2 := cutCap_le S (netArcs r c zs hid but zs.length) hcap
  omega

/-- the interval of a cell -/
def SpanOf (r c : Int) (zs : List Int) (hid : List Bool) (i : Nat) (lo hi : Int) : Prop := (0 ≤ lo ∧ lo ≤ hi ∧ hi ≤ 9000000) ∧
  if hid.getD i false = false then lo = zs.getD i 0 ∧ hi = zs.getD i 0
  else ∃ (m : Nat) (gain loss : Int), r + c = m ∧ IsMax m (netArcs r c zs hid i zs.length) (r + (i : Int) % c) ((i : Int) / c) gain ∧ IsMax m (netArcs r c zs hid i zs.length) ((i : Int) / c) (r + (i : Int) % c) loss ∧
    0 ≤ gain ∧ 0 ≤ loss ∧ lo = zs.getD i 0 - min (zs.getD i 0) loss ∧ hi = zs.getD i 0 + gain

set_option maxHeartbeats 400000 in
theorem supInterval (r c : Int) (i : Nat) (A B : Option Addr) (zs : List Int) (hid : List Bool) (cap cap2 : Nat) (w0 : World) (hr : TblRange r c) (hl : (zs.length : Int) = r * c) (hZ : ZsOk zs) (hh : hid.length = zs.length) (hz : IntsAt w0 A zs) (hb : BoolsAt w0 B hid) (hi : i < zs.length) :
    Calls Try.prog 23 #[.agg #[I r, I c, .slice A zs.length cap], .slice B hid.length cap2, I i] w0
      fun e w' => ∃ lo hi : Int, e = .returned (.agg #[I lo, I hi]) ∧ SpanOf r c zs hid i lo hi ∧ Below w0.heap.size w0 w' := by
  have H := SH.refl w0
  have hbd := mul_bd hr
  have hr' := hr
  obtain ⟨r1, r2, c1, c2⟩ := hr'
  have hi2 : i < hid.length := by omega
  have hm : 0 ≤ (i : Int) % c ∧ (i : Int) % c < c := ⟨Int.emod_nonneg _ (by omega), Int.emod_lt_of_pos _ (by omega)⟩
  have hq : 0 ≤ (i : Int) / c := Int.ediv_nonneg (by omega) (by omega)
  have hq2 : (i : Int) / c < r := Int.ediv_lt_of_lt_mul (by omega) (by omega)
  have hx := hZ i hi
  obtain ⟨b, o, rfl, hc⟩ := hz i hi
  obtain ⟨b2, o2, rfl, hd⟩ := hb i hi2
  refine Calls.ofWPc Try.func23 rfl Try.results23 Try.ntmps23 rfl ?_
  refine WP.seq ?_
  refine WP.region ?_
  refine OPS.box rfl rfl rfl rfl (cA rfl) H ?_
  clear H; intro g3 w H
  refine OPS.alloc rfl rfl rfl rfl (zero_run rfl) rfl H ?_
  clear H; intro g6 w H
  refine OPS.nil ?_
  refine WP.seq ?_
  refine WP.region ?_
  refine OPS.val rfl rfl rfl (Ev.fieldAddr (fld_run rfl) rfl) ?_
  refine OPS.val rfl rfl rfl (Ev.load1 (agg_run rfl) rfl (by first | exact H.ldL 0 rfl _ rfl | exact H.ldL 1 rfl _ rfl | exact H.ldL 2 rfl _ rfl | exact H.ldL 3 rfl _ rfl | exact H.ldL 4 rfl _ rfl | exact H.ldL 5 rfl _ rfl | exact H.ldL 6 rfl _ rfl | exact H.ldL 7 rfl _ rfl | exact H.ld0 (by assumption) | assumption | exact H.ldS (by assumption) (by assumption))) ?_
  refine OPS.val rfl rfl rfl (Ev.mvI rfl) ?_
  refine OPS.val rfl rfl rfl ((by first | exact Ev.indexAddr1 (el_run rfl) (size_run rfl) rfl rfl rfl (by omega) | exact Ev.indexAddr (el_run rfl) (size_run rfl) rfl rfl rfl (by omega))) ?_
  refine OPS.val rfl rfl rfl (Ev.load1 (agg_run rfl) rfl (by first | exact H.ldL 0 rfl _ rfl | exact H.ldL 1 rfl _ rfl | exact H.ldL 2 rfl _ rfl | exact H.ldL 3 rfl _ rfl | exact H.ldL 4 rfl _ rfl | exact H.ldL 5 rfl _ rfl | exact H.ldL 6 rfl _ rfl | exact H.ldL 7 rfl _ rfl | exact H.ld0 (by assumption) | assumption | exact H.ldS (by assumption) (by assumption))) ?_
  refine OPS.val rfl rfl rfl (Ev.asI rfl) ?_
  refine OPS.nil ?_
  refine WP.seq ?_
  refine WP.seq ?_
  refine WP.region ?_
  refine OPS.val rfl rfl rfl (Ev.mvS rfl) ?_
  refine OPS.val rfl rfl rfl (Ev.mvI rfl) ?_
  refine OPS.val rfl rfl rfl ((by first | exact Ev.indexAddr1 (el_run rfl) (size_run rfl) rfl rfl rfl (by omega) | exact Ev.indexAddr (el_run rfl) (size_run rfl) rfl rfl rfl (by omega))) ?_
  refine OPS.val rfl rfl rfl (Ev.load1 (agg_run rfl) rfl (by first | exact H.ldL 0 rfl _ rfl | exact H.ldL 1 rfl _ rfl | exact H.ldL 2 rfl _ rfl | exact H.ldL 3 rfl _ rfl | exact H.ldL 4 rfl _ rfl | exact H.ldL 5 rfl _ rfl | exact H.ldL 6 rfl _ rfl | exact H.ldL 7 rfl _ rfl | exact H.ld0 (by assumption) | assumption | exact H.ldS (by assumption) (by assumption))) ?_
  refine OPS.val rfl rfl rfl (Ev.not rfl) ?_
  refine OPS.nil ?_
  refine WP.cond rfl (fun hc2 => ?_) (fun hc2 => ?_)
  · refine WP.seq ?_
    refine WP.region ?_
    refine OPS.val rfl rfl rfl (Ev.mvI rfl) ?_
    refine OPS.val rfl rfl rfl (Ev.mvI rfl) ?_
    refine OPS.val rfl rfl rfl (Ev.build (bld_28_0_1 rfl rfl)) ?_
    first | refine OPS.store 0 _ rfl rfl rfl (size_run rfl) rfl (cA rfl) rfl rfl H rfl (by simp) ?_ | refine OPS.store 1 _ rfl rfl rfl (size_run rfl) rfl (cA rfl) rfl rfl H rfl (by simp) ?_ | refine OPS.store 2 _ rfl rfl rfl (size_run rfl) rfl (cA rfl) rfl rfl H rfl (by simp) ?_ | refine OPS.store 3 _ rfl rfl rfl (size_run rfl) rfl (cA rfl) rfl rfl H rfl (by simp) ?_ | refine OPS.store 4 _ rfl rfl rfl (size_run rfl) rfl (cA rfl) rfl rfl H rfl (by simp) ?_ | refine OPS.store 5 _ rfl rfl rfl (size_run rfl) rfl (cA rfl) rfl rfl H rfl (by simp) ?_ | refine OPS.store 6 _ rfl rfl rfl (size_run rfl) rfl (cA rfl) rfl rfl H rfl (by simp) ?_ | refine OPS.store 7 _ rfl rfl rfl (size_run rfl) rfl (cA rfl) rfl rfl H rfl (by simp) ?_ | refine OPS.store 8 _ rfl rfl rfl (size_run rfl) rfl (cA rfl) rfl rfl H rfl (by simp) ?_
    clear H; intro w H; simp only [List.set_cons_zero, List.set_cons_succ, putL, Nat.zero_add] at H
    refine OPS.nil ?_
    refine WP.ret ⟨[_], ⟨(by first | exact resCellA 0 H rfl (agg_run rfl) (size_run rfl) (by first | assumption | rfl) rfl | exact resCellA 1 H rfl (agg_run rfl) (size_run rfl) (by first | assumption | rfl) rfl | exact resCellA 2 H rfl (agg_run rfl) (size_run rfl) (by first | assumption | rfl) rfl | exact resCellA 3 H rfl (agg_run rfl) (size_run rfl) (by first | assumption | rfl) rfl | exact resCellA 4 H rfl (agg_run rfl) (size_run rfl) (by first | assumption | rfl) rfl | exact resCellA 5 H rfl (agg_run rfl) (size_run rfl) (by first | assumption | rfl) rfl | exact resCellA 6 H rfl (agg_run rfl) (size_run rfl) (by first | assumption | rfl) rfl), trivial⟩, ?_⟩
    have hf : hid[i] = false := by simpa using hc2
    exact ⟨zs[i], zs[i], rfl, ⟨by omega, by simp [hi, hi2, hf]⟩, H.below⟩
  have hf : hid[i] = true := by simpa using hc2
  refine WP.skip ?_
  refine WP.seq ?_
  refine WP.region ?_
  refine OPS.val rfl rfl rfl ((by first | exact Ev.loadO 0 H rfl (agg_run rfl) (size_run rfl) (by first | assumption | rfl) rfl | exact Ev.loadO 1 H rfl (agg_run rfl) (size_run rfl) (by first | assumption | rfl) rfl | exact Ev.loadO 2 H rfl (agg_run rfl) (size_run rfl) (by first | assumption | rfl) rfl | exact Ev.loadO 3 H rfl (agg_run rfl) (size_run rfl) (by first | assumption | rfl) rfl | exact Ev.loadO 4 H rfl (agg_run rfl) (size_run rfl) (by first | assumption | rfl) rfl | exact Ev.loadO 5 H rfl (agg_run rfl) (size_run rfl) (by first | assumption | rfl) rfl | exact Ev.loadO 6 H rfl (agg_run rfl) (size_run rfl) (by first | assumption | rfl) rfl | fail)) ?_
  refine OPS.val rfl rfl rfl (Ev.mvS rfl) ?_
  refine OPS.val rfl rfl rfl (Ev.mvI rfl) ?_
  refine OPS.call (d := some 31) rfl rfl rfl (EvC.func (fun_run rfl)) (supNetwork r c i _ _ zs hid cap cap2 w hr (by omega) hh (hz.sh H) (hb.sh H)) ?_
  rintro _ w ⟨A', cap', Lo, rfl, hO, Hc⟩
  refine ⟨_, rfl, ?_⟩
  replace H := SH.call (Lv := []) (by simpa using H) Hc
  clear Hc
  refine OPS.alloc rfl rfl rfl rfl (zero_run rfl) rfl H ?_
  clear H; intro g8 w H
  first | refine OPS.store 0 _ rfl rfl rfl (size_run rfl) rfl (cA rfl) rfl rfl H rfl (by simp) ?_ | refine OPS.store 1 _ rfl rfl rfl (size_run rfl) rfl (cA rfl) rfl rfl H rfl (by simp) ?_ | refine OPS.store 2 _ rfl rfl rfl (size_run rfl) rfl (cA rfl) rfl rfl H rfl (by simp) ?_ | refine OPS.store 3 _ rfl rfl rfl (size_run rfl) rfl (cA rfl) rfl rfl H rfl (by simp) ?_ | refine OPS.store 4 _ rfl rfl rfl (size_run rfl) rfl (cA rfl) rfl rfl H rfl (by simp) ?_ | refine OPS.store 5 _ rfl rfl rfl (size_run rfl) rfl (cA rfl) rfl rfl H rfl (by simp) ?_ | refine OPS.store 6 _ rfl rfl rfl (size_run rfl) rfl (cA rfl) rfl rfl H rfl (by simp) ?_ | refine OPS.store 7 _ rfl rfl rfl (size_run rfl) rfl (cA rfl) rfl rfl H rfl (by simp) ?_ | refine OPS.store 8 _ rfl rfl rfl (size_run rfl) rfl (cA rfl) rfl rfl H rfl (by simp) ?_
  clear H; intro w H; simp only [List.set_cons_zero, List.set_cons_succ, putL, Nat.zero_add] at H
  refine OPS.nil ?_
  refine WP.seq ?_
  refine WP.rstill mixed (by kernel_rfl) H ?_
  clear H; intro w hbw5 H
  refine OPS.val rfl rfl rfl (Ev.mvI rfl) ?_
  refine OPS.val rfl rfl rfl (Ev.fieldAddr (fld_run rfl) rfl) ?_
  refine OPS.val rfl rfl rfl (Ev.load1 (agg_run rfl) rfl (by first | exact H.ldL 0 rfl _ rfl | exact H.ldL 1 rfl _ rfl | exact H.ldL 2 rfl _ rfl | exact H.ldL 3 rfl _ rfl | exact H.ldL 4 rfl _ rfl | exact H.ldL 5 rfl _ rfl | exact H.ldL 6 rfl _ rfl | exact H.ldL 7 rfl _ rfl | exact H.ld0 (by assumption) | assumption | exact H.ldS (by assumption) (by assumption))) ?_
  refine OPS.val rfl rfl rfl (Ev.quo rfl rfl (by omega) (by omega) (by omega)) ?_
  refine OPS.val rfl rfl rfl (Ev.fieldAddr (fld_run rfl) rfl) ?_
  refine OPS.val rfl rfl rfl (Ev.load1 (agg_run rfl) rfl (by first | exact H.ldL 0 rfl _ rfl | exact H.ldL 1 rfl _ rfl | exact H.ldL 2 rfl _ rfl | exact H.ldL 3 rfl _ rfl | exact H.ldL 4 rfl _ rfl | exact H.ldL 5 rfl _ rfl | exact H.ldL 6 rfl _ rfl | exact H.ldL 7 rfl _ rfl | exact H.ld0 (by assumption) | assumption | exact H.ldS (by assumption) (by assumption))) ?_
  refine OPS.val rfl rfl rfl (Ev.mvI rfl) ?_
  refine OPS.val rfl rfl rfl (Ev.fieldAddr (fld_run rfl) rfl) ?_
  refine OPS.val rfl rfl rfl (Ev.load1 (agg_run rfl) rfl (by first | exact H.ldL 0 rfl _ rfl | exact H.ldL 1 rfl _ rfl | exact H.ldL 2 rfl _ rfl | exact H.ldL 3 rfl _ rfl | exact H.ldL 4 rfl _ rfl | exact H.ldL 5 rfl _ rfl | exact H.ldL 6 rfl _ rfl | exact H.ldL 7 rfl _ rfl | exact H.ld0 (by assumption) | assumption | exact H.ldS (by assumption) (by assumption))) ?_
  refine OPS.val rfl rfl rfl (Ev.rem rfl rfl (by omega) (by omega)) ?_
  refine OPS.val rfl rfl rfl (Ev.add rfl rfl (by unfold fits; omega)) ?_
  refine OPS.val rfl rfl rfl (Ev.asI rfl) ?_
  refine OPS.val rfl rfl rfl (Ev.asI rfl) ?_
  refine OPS.nil_s ?_
  refine WP.seq ?_
  refine WP.region ?_
  refine OPS.val rfl rfl rfl ((by first | exact Ev.loadO 0 H rfl (agg_run rfl) (size_run rfl) (by first | assumption | rfl) rfl | exact Ev.loadO 1 H rfl (agg_run rfl) (size_run rfl) (by first | assumption | rfl) rfl | exact Ev.loadO 2 H rfl (agg_run rfl) (size_run rfl) (by first | assumption | rfl) rfl | exact Ev.loadO 3 H rfl (agg_run rfl) (size_run rfl) (by first | assumption | rfl) rfl | exact Ev.loadO 4 H rfl (agg_run rfl) (size_run rfl) (by first | assumption | rfl) rfl | exact Ev.loadO 5 H rfl (agg_run rfl) (size_run rfl) (by first | assumption | rfl) rfl | exact Ev.loadO 6 H rfl (agg_run rfl) (size_run rfl) (by first | assumption | rfl) rfl | fail)) ?_
  refine OPS.val rfl rfl rfl (Ev.mvI rfl) ?_
  refine OPS.val rfl rfl rfl (Ev.mvI rfl) ?_
  have hA : ArcsAt w A' (netArcs r c zs hid i zs.length) := (hO.rows (R := [⟨g8, 68, [I (r + c), .slice A' (netArcs r c zs hid i zs.length).length cap']⟩, ⟨g6, 28, [I 0, I 0]⟩, ⟨g3, 24, [I r, I c, .slice (some ⟨b, o, none⟩) zs.length cap]⟩]) arcCells_len (by decide) H).1
  refine OPS.call (d := some 47) rfl rfl rfl (EvC.func (fun_run rfl)) (flowMost (r + c) (r + (i : Int) % c) ((i : Int) / c) A' (netArcs r c zs hid i zs.length) cap' w hA) ?_
  rintro _ w ⟨gain, e1, rfl, h1, Hc⟩
  refine ⟨_, rfl, ?_⟩
  replace H := H.toBelow Hc
  clear Hc hA
  refine OPS.val rfl rfl rfl (Ev.mvT rfl) ?_
  refine OPS.val rfl rfl rfl (Ev.extract rfl rfl) ?_
  refine OPS.val rfl rfl rfl (Ev.extract rfl rfl) ?_
  refine OPS.val rfl rfl rfl (Ev.asI rfl) ?_
  refine OPS.val rfl rfl rfl (Ev.asI rfl) ?_
  refine OPS.nil ?_
  refine WP.seq ?_
  refine WP.region ?_
  refine OPS.val rfl rfl rfl ((by first | exact Ev.loadO 0 H rfl (agg_run rfl) (size_run rfl) (by first | assumption | rfl) rfl | exact Ev.loadO 1 H rfl (agg_run rfl) (size_run rfl) (by first | assumption | rfl) rfl | exact Ev.loadO 2 H rfl (agg_run rfl) (size_run rfl) (by first | assumption | rfl) rfl | exact Ev.loadO 3 H rfl (agg_run rfl) (size_run rfl) (by first | assumption | rfl) rfl | exact Ev.loadO 4 H rfl (agg_run rfl) (size_run rfl) (by first | assumption | rfl) rfl | exact Ev.loadO 5 H rfl (agg_run rfl) (size_run rfl) (by first | assumption | rfl) rfl | exact Ev.loadO 6 H rfl (agg_run rfl) (size_run rfl) (by first | assumption | rfl) rfl | fail)) ?_
  refine OPS.val rfl rfl rfl (Ev.mvI rfl) ?_
  refine OPS.val rfl rfl rfl (Ev.mvI rfl) ?_
  have hA : ArcsAt w A' (netArcs r c zs hid i zs.length) := (hO.rows (R := [⟨g8, 68, [I (r + c), .slice A' (netArcs r c zs hid i zs.length).length cap']⟩, ⟨g6, 28, [I 0, I 0]⟩, ⟨g3, 24, [I r, I c, .slice (some ⟨b, o, none⟩) zs.length cap]⟩]) arcCells_len (by decide) H).1
  refine OPS.call (d := some 54) rfl rfl rfl (EvC.func (fun_run rfl)) (flowMost (r + c) ((i : Int) / c) (r + (i : Int) % c) A' (netArcs r c zs hid i zs.length) cap' w hA) ?_
  rintro _ w ⟨loss, e2, rfl, h2, Hc⟩
  refine ⟨_, rfl, ?_⟩
  replace H := H.toBelow Hc
  clear Hc hA
  obtain ⟨⟨m, hm1, hg⟩, hg1, hg2⟩ := most_ok hr hl hZ ⟨by omega, by omega⟩ ⟨by omega, by omega⟩ (by omega) h1
  obtain ⟨⟨m2, hm2, hs⟩, hs1, hs2⟩ := most_ok hr hl hZ ⟨by omega, by omega⟩ ⟨by omega, by omega⟩ (by omega) h2
  obtain rfl : m = m2 := by omega
  refine OPS.val rfl rfl rfl (Ev.mvT rfl) ?_
  refine OPS.val rfl rfl rfl (Ev.extract rfl rfl) ?_
  refine OPS.val rfl rfl rfl (Ev.extract rfl rfl) ?_
  refine OPS.val rfl rfl rfl (Ev.asI rfl) ?_
  refine OPS.val rfl rfl rfl (Ev.asI rfl) ?_
  refine OPS.nil ?_
  refine WP.seq ?_
  refine WP.region ?_
  refine OPS.val rfl rfl rfl (Ev.mvI rfl) ?_
  refine OPS.val rfl rfl rfl (Ev.mvI rfl) ?_
  refine OPS.val rfl rfl rfl (Ev.mvI rfl) ?_
  refine OPS.val rfl rfl rfl (Ev.min rfl rfl) ?_
  refine OPS.val rfl rfl rfl (Ev.sub rfl rfl (by unfold fits; omega)) ?_
  refine OPS.val rfl rfl rfl (Ev.mvI rfl) ?_
  refine OPS.val rfl rfl rfl (Ev.mvI rfl) ?_
  refine OPS.val rfl rfl rfl (Ev.add rfl rfl (by unfold fits; omega)) ?_
  refine OPS.val rfl rfl rfl (Ev.build (bld_28_0_1 rfl rfl)) ?_
  first | refine OPS.store 0 _ rfl rfl rfl (size_run rfl) rfl (cA rfl) rfl rfl H rfl (by simp) ?_ | refine OPS.store 1 _ rfl rfl rfl (size_run rfl) rfl (cA rfl) rfl rfl H rfl (by simp) ?_ | refine OPS.store 2 _ rfl rfl rfl (size_run rfl) rfl (cA rfl) rfl rfl H rfl (by simp) ?_ | refine OPS.store 3 _ rfl rfl rfl (size_run rfl) rfl (cA rfl) rfl rfl H rfl (by simp) ?_ | refine OPS.store 4 _ rfl rfl rfl (size_run rfl) rfl (cA rfl) rfl rfl H rfl (by simp) ?_ | refine OPS.store 5 _ rfl rfl rfl (size_run rfl) rfl (cA rfl) rfl rfl H rfl (by simp) ?_ | refine OPS.store 6 _ rfl rfl rfl (size_run rfl) rfl (cA rfl) rfl rfl H rfl (by simp) ?_ | refine OPS.store 7 _ rfl rfl rfl (size_run rfl) rfl (cA rfl) rfl rfl H rfl (by simp) ?_ | refine OPS.store 8 _ rfl rfl rfl (size_run rfl) rfl (cA rfl) rfl rfl H rfl (by simp) ?_
  clear H; intro w H; simp only [List.set_cons_zero, List.set_cons_succ, putL, Nat.zero_add] at H
  refine OPS.nil ?_
  refine WP.ret ⟨[_], ⟨(by first | exact resCellA 0 H rfl (agg_run rfl) (size_run rfl) (by first | assumption | rfl) rfl | exact resCellA 1 H rfl (agg_run rfl) (size_run rfl) (by first | assumption | rfl) rfl | exact resCellA 2 H rfl (agg_run rfl) (size_run rfl) (by first | assumption | rfl) rfl | exact resCellA 3 H rfl (agg_run rfl) (size_run rfl) (by first | assumption | rfl) rfl | exact resCellA 4 H rfl (agg_run rfl) (size_run rfl) (by first | assumption | rfl) rfl | exact resCellA 5 H rfl (agg_run rfl) (size_run rfl) (by first | assumption | rfl) rfl | exact resCellA 6 H rfl (agg_run rfl) (size_run rfl) (by first | assumption | rfl) rfl), trivial⟩, ?_⟩
  refine ⟨zs[i] - min zs[i] loss, zs[i] + gain, ?_, ?_, H.below⟩
  · have hmin : min zs[i] loss = if loss < zs[i] then loss else zs[i] := by split <;> omega
    rw [hmin]; rfl
  · refine ⟨by omega, ?_⟩
    rw [if_neg (by simp [hi2, hf])]
    exact ⟨m, gain, loss, hm1, hg, hs, hg1, hs1, by simp [hi], by simp [hi]⟩
end Go.Proofs.Ytmkgfgnpgoegcaa
