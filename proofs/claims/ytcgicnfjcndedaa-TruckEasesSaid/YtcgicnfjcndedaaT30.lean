/-
  The law TruckEases.
-/
import Derived.Test.YtcgicnfjcndedaaT29
set_option linter.all false
namespace Go.Proofs.Ytcgicnfjcndedaa
open Go Go.W Go.RowKit

theorem cellsAt_app {w : World} {b : Nat} : ∀ (x y : List Value) (o : Nat), cellsAt w b o x → cellsAt w b (o + x.length) y → cellsAt w b o (x ++ y)
  | [], y, o, _, h => by simpa using h
  | a :: x, y, o, h, h2 => ⟨h.1, cellsAt_app x y (o + 1) h.2 (by rw [show o + 1 + x.length = o + (a :: x).length by simp; omega]; exact h2)⟩
theorem rowsCells {α : Type} {sz : Nat} {enc : α → List Value} {w : World} {b : Nat} (hsz : ∀ x, (enc x).length = sz) : ∀ (l : List α) (o : Nat), RowsAt sz enc w (some ⟨b, o, none⟩) l → cellsAt w b o (l.flatMap enc)
  | [], _, _ => trivial
  | a :: l, o, h => by
    have h0 := h 0 (by simp)
    obtain ⟨b', o', e1, h1⟩ := h0
    cases e1
    rw [List.flatMap_cons]
    refine cellsAt_app _ _ _ (by simpa using h1) (rowsCells hsz l _ fun k hk => ?_)
    obtain ⟨b', o', e1, h1⟩ := h (k + 1) (by simpa using hk)
    cases e1
    refine ⟨_, _, rfl, ?_⟩
    rw [hsz, show o + sz + k * sz = o + (k + 1) * sz by rw [Nat.succ_mul]; omega]
    simpa using h1
theorem rowsSrc {α : Type} {sz : Nat} {enc : α → List Value} {w : World} {A : Option Addr} {l : List α} (hsz : ∀ x, (enc x).length = sz) (h : RowsAt sz enc w A l) : l.length = 0 ∨ ∃ b o, A = some ⟨b, o, none⟩ ∧ cellsAt w b o (l.flatMap enc) := by
  rcases Nat.eq_zero_or_pos l.length with h0 | h0
  · exact .inl h0
  · obtain ⟨b, o, rfl, _⟩ := h 0 h0
    exact .inr ⟨b, o, rfl, rowsCells hsz l o h⟩
theorem rows_one {α : Type} {enc : α → List Value} (he : ∀ x, ((enc x).all (·.oneCell')) = true) (l : List α) : ((l.flatMap enc).all (·.oneCell')) = true := by
  rw [List.all_eq_true]
  intro v hv
  obtain ⟨x, _, hx⟩ := List.mem_flatMap.1 hv
  exact List.all_eq_true.1 (he x) v hx
theorem OwnS.empty {g el sz : Nat} : OwnS (some ⟨g, 0, none⟩) 0 0 [] el sz [⟨g, el, []⟩] := ⟨by simp, .inr ⟨g, [], rfl, rfl, Nat.le_refl _, by unfold maxLen; omega, by simp⟩⟩
def minI (a b : Int) : Int := if b < a then b else a

set_option maxRecDepth 20000 in
set_option maxHeartbeats 4000000 in
theorem lawEases (n hd rt ma mb mc : Int) (A B C R : Option Addr) (l : List Edg) (ts : List Truck) (ns : List Need) (rn : List Int) (ed : Edg) (ca cb cc cr : Nat) (w0 : World) (hN : NightAt w0 A B C l ts ns cc) (hr : IntsAt w0 R rn) (hrl : rn.length ≤ maxLen) (hrc : rn.length ≤ cr)
    (hma : 0 ≤ ma ∧ ma ≤ 65535) (hmb : 0 ≤ mb ∧ mb ≤ 65535) (hmc : 0 ≤ mc ∧ mc ≤ 65535) :
    Calls Try.prog 8 #[.agg #[I n, .slice A l.length ca, .slice B ts.length cb, .slice C ns.length cc, I hd], .agg #[I rt, .slice R rn.length cr], .agg #[.int .u16 ma, .int .u16 mb, .int .u16 mc], .agg #[I ed.f, I ed.t, I ed.secs]] w0 fun e w' => e = .returned (.bool true) ∧ Below w0.heap.size w0 w' := by
  have H := SH.refl w0
  refine Calls.ofWP Try.func8 rfl Try.results8 Try.ntmps8 rfl ?_
  refine WP.seq ?_
  refine WP.region ?_
  refine OPS.box rfl rfl rfl rfl (cA rfl) H ?_
  clear H; intro g4 w H
  refine OPS.box rfl rfl rfl rfl (cA rfl) H ?_
  clear H; intro g5 w H
  refine OPS.box rfl rfl rfl rfl (cA rfl) H ?_
  clear H; intro g6 w H
  refine OPS.box rfl rfl rfl rfl (cA rfl) H ?_
  clear H; intro g7 w H
  refine OPS.val rfl rfl rfl (Ev.asB rfl) ?_
  refine OPS.nil ?_
  refine WP.seq ?_
  refine WP.seq ?_
  refine WP.region ?_
  refine OPS.val rfl rfl rfl ((by first | exact Ev.loadO 0 H rfl (agg_run rfl) (size_run rfl) (by first | assumption | rfl) rfl | exact Ev.loadO 1 H rfl (agg_run rfl) (size_run rfl) (by first | assumption | rfl) rfl | exact Ev.loadO 2 H rfl (agg_run rfl) (size_run rfl) (by first | assumption | rfl) rfl | exact Ev.loadO 3 H rfl (agg_run rfl) (size_run rfl) (by first | assumption | rfl) rfl | exact Ev.loadO 4 H rfl (agg_run rfl) (size_run rfl) (by first | assumption | rfl) rfl | exact Ev.loadO 5 H rfl (agg_run rfl) (size_run rfl) (by first | assumption | rfl) rfl | exact Ev.loadO 6 H rfl (agg_run rfl) (size_run rfl) (by first | assumption | rfl) rfl | (change Ev _ _ _ _ (Op.load 28 (Operand.tmp 4)) _; fail))) ?_
  refine OPS.call (d := some 24) rfl rfl rfl (EvC.func (fun_run rfl)) (r42Few n hd A B C l.length ts.length ns.length ca cb cc w) ?_
  rintro _ w ⟨rfl, hb⟩
  refine ⟨_, rfl, ?_⟩
  replace H := H.toBelow hb; clear hb
  refine OPS.val rfl rfl rfl (Ev.not rfl) ?_
  refine OPS.val rfl rfl rfl (Ev.mvB rfl) ?_
  refine OPS.gval rfl rfl rfl rfl rfl (fun hg => Ev.fieldAddr (fld_run rfl) (by first | rfl | exact gvE hg rfl)) ?_
  refine OPS.gval rfl rfl rfl rfl rfl (fun hg => Ev.load1 (agg_run rfl) (by first | rfl | exact gvE hg rfl) (by first | exact H.ldL 0 rfl _ rfl | exact H.ldL 1 rfl _ rfl | exact H.ldL 2 rfl _ rfl | exact H.ldL 3 rfl _ rfl | exact H.ldL 4 rfl _ rfl | exact H.ldL 5 rfl _ rfl | exact H.ldL 6 rfl _ rfl | exact H.ldL 7 rfl _ rfl | exact H.ld0 (by assumption) | assumption | exact H.ldS (by assumption) (by assumption))) ?_
  refine OPS.gval rfl rfl rfl rfl rfl (fun hg => Ev.len (el_run rfl) (by first | rfl | exact gvE hg rfl)) ?_
  refine OPS.gval rfl rfl rfl rfl rfl (fun hg => Ev.gtr (by first | rfl | exact gvE hg rfl) (by first | rfl | exact gvE hg rfl)) ?_
  refine OPS.val rfl rfl rfl ((by first | exact Ev.pickOr rfl rfl rfl | exact Ev.pickAnd rfl rfl rfl)) ?_
  refine OPS.nil ?_
  refine WP.cond rfl (fun hc1 => ?_) (fun hc1 => ?_)
  · refine WP.seq ?_
    refine WP.region ?_
    refine OPS.call (d := some 32) rfl rfl rfl (EvC.func (fun_run rfl)) (lawAwake w) ?_
    rintro _ w ⟨rfl, hb⟩
    refine ⟨_, rfl, ?_⟩
    replace H := H.toBelow hb; clear hb
    refine OPS.val rfl rfl rfl (Ev.asB rfl) ?_
    refine OPS.nil ?_
    refine WP.ret ⟨_, rfl, ?_⟩
    exact ⟨rfl, H.below⟩
  refine WP.skip ?_
  refine WP.seq ?_
  refine WP.region ?_
  refine OPS.val rfl rfl rfl ((by first | exact Ev.loadO 0 H rfl (agg_run rfl) (size_run rfl) (by first | assumption | rfl) rfl | exact Ev.loadO 1 H rfl (agg_run rfl) (size_run rfl) (by first | assumption | rfl) rfl | exact Ev.loadO 2 H rfl (agg_run rfl) (size_run rfl) (by first | assumption | rfl) rfl | exact Ev.loadO 3 H rfl (agg_run rfl) (size_run rfl) (by first | assumption | rfl) rfl | exact Ev.loadO 4 H rfl (agg_run rfl) (size_run rfl) (by first | assumption | rfl) rfl | exact Ev.loadO 5 H rfl (agg_run rfl) (size_run rfl) (by first | assumption | rfl) rfl | exact Ev.loadO 6 H rfl (agg_run rfl) (size_run rfl) (by first | assumption | rfl) rfl | (change Ev _ _ _ _ (Op.load 28 (Operand.tmp 4)) _; fail))) ?_
  refine OPS.val rfl rfl rfl ((by first | exact Ev.loadO 0 H rfl (agg_run rfl) (size_run rfl) (by first | assumption | rfl) rfl | exact Ev.loadO 1 H rfl (agg_run rfl) (size_run rfl) (by first | assumption | rfl) rfl | exact Ev.loadO 2 H rfl (agg_run rfl) (size_run rfl) (by first | assumption | rfl) rfl | exact Ev.loadO 3 H rfl (agg_run rfl) (size_run rfl) (by first | assumption | rfl) rfl | exact Ev.loadO 4 H rfl (agg_run rfl) (size_run rfl) (by first | assumption | rfl) rfl | exact Ev.loadO 5 H rfl (agg_run rfl) (size_run rfl) (by first | assumption | rfl) rfl | exact Ev.loadO 6 H rfl (agg_run rfl) (size_run rfl) (by first | assumption | rfl) rfl | (change Ev _ _ _ _ (Op.load 35 (Operand.tmp 5)) _; fail))) ?_
  refine OPS.call (d := some 36) rfl rfl rfl (EvC.func (fun_run rfl)) (truckWalkP n hd rt A B C R l ts ns rn ca cb cc cr w (hN.sh H).l (hN.sh H).t (hN.sh H).n hN.c (hr.sh H) hrl hrc) ?_
  rintro _ w ⟨V, cv, Lv, rfl, hO, Hc⟩
  refine ⟨_, rfl, ?_⟩
  replace H := H.toBelow Hc.below
  clear Hc hO
  refine OPS.val rfl rfl rfl (Ev.mvT rfl) ?_
  refine OPS.val rfl rfl rfl (Ev.extract rfl rfl) ?_
  refine OPS.val rfl rfl rfl (Ev.extract rfl rfl) ?_
  refine OPS.val rfl rfl rfl (Ev.extract rfl rfl) ?_
  refine OPS.val rfl rfl rfl (Ev.asS rfl) ?_
  refine OPS.val rfl rfl rfl (Ev.asI rfl) ?_
  refine OPS.val rfl rfl rfl (Ev.asI rfl) ?_
  refine OPS.nil ?_
  refine WP.seq ?_
  refine WP.seq ?_
  refine WP.region ?_
  refine OPS.val rfl rfl rfl (Ev.mvI rfl) ?_
  refine OPS.val rfl rfl rfl (Ev.neq rfl rfl) ?_
  refine OPS.nil ?_
  refine WP.cond rfl (fun hc4 => ?_) (fun hc4 => ?_)
  · refine WP.seq ?_
    refine WP.region ?_
    refine OPS.call (d := some 42) rfl rfl rfl (EvC.func (fun_run rfl)) (lawAwake w) ?_
    rintro _ w ⟨rfl, hb⟩
    refine ⟨_, rfl, ?_⟩
    replace H := H.toBelow hb; clear hb
    refine OPS.val rfl rfl rfl (Ev.asB rfl) ?_
    refine OPS.nil ?_
    refine WP.ret ⟨_, rfl, ?_⟩
    exact ⟨rfl, H.below⟩
  have he : walkE n l ts ns hd rt rn = 0 := by simpa using hc4
  obtain ⟨m, q, t, rfl, rfl, hW⟩ := walkOk_of he
  have hq := hW.hq
  have htr := hW.tr
  have hh := hW.night.hh
  have hll := hW.night.road.len
  have htl8 := hW.night.tl
  have hgt : ts[q] = t := by have := hW.ht; rw [List.getElem?_eq_getElem hq] at this; simpa using this
  refine WP.skip ?_
  refine WP.seq ?_
  refine WP.seq ?_
  refine WP.region ?_
  refine OPS.val rfl rfl rfl (Ev.fieldAddr (fld_run rfl) rfl) ?_
  refine OPS.val rfl rfl rfl (Ev.load1 (agg_run rfl) rfl (by first | exact H.ldL 0 rfl _ rfl | exact H.ldL 1 rfl _ rfl | exact H.ldL 2 rfl _ rfl | exact H.ldL 3 rfl _ rfl | exact H.ldL 4 rfl _ rfl | exact H.ldL 5 rfl _ rfl | exact H.ldL 6 rfl _ rfl | exact H.ldL 7 rfl _ rfl | exact H.ld0 (by assumption) | assumption | exact H.ldS (by assumption) (by assumption))) ?_
  refine OPS.val rfl rfl rfl (Ev.lss rfl rfl) ?_
  refine OPS.val rfl rfl rfl (Ev.mvB rfl) ?_
  refine OPS.gval rfl rfl rfl rfl rfl (fun hg => Ev.fieldAddr (fld_run rfl) (by first | rfl | exact gvE hg rfl)) ?_
  refine OPS.gval rfl rfl rfl rfl rfl (fun hg => Ev.load1 (agg_run rfl) (by first | rfl | exact gvE hg rfl) (by first | exact H.ldL 0 rfl _ rfl | exact H.ldL 1 rfl _ rfl | exact H.ldL 2 rfl _ rfl | exact H.ldL 3 rfl _ rfl | exact H.ldL 4 rfl _ rfl | exact H.ldL 5 rfl _ rfl | exact H.ldL 6 rfl _ rfl | exact H.ldL 7 rfl _ rfl | exact H.ld0 (by assumption) | assumption | exact H.ldS (by assumption) (by assumption))) ?_
  refine OPS.gval rfl rfl rfl rfl rfl (fun hg => Ev.fieldAddr (fld_run rfl) (by first | rfl | exact gvE hg rfl)) ?_
  refine OPS.gval rfl rfl rfl rfl rfl (fun hg => Ev.load1 (agg_run rfl) (by first | rfl | exact gvE hg rfl) (by first | exact H.ldL 0 rfl _ rfl | exact H.ldL 1 rfl _ rfl | exact H.ldL 2 rfl _ rfl | exact H.ldL 3 rfl _ rfl | exact H.ldL 4 rfl _ rfl | exact H.ldL 5 rfl _ rfl | exact H.ldL 6 rfl _ rfl | exact H.ldL 7 rfl _ rfl | exact H.ld0 (by assumption) | assumption | exact H.ldS (by assumption) (by assumption))) ?_
  refine OPS.gval rfl rfl rfl rfl rfl (fun hg => Ev.len (el_run rfl) (by first | rfl | exact gvE hg rfl)) ?_
  refine OPS.gval rfl rfl rfl rfl rfl (fun hg => Ev.geq (by first | rfl | exact gvE hg rfl) (by first | rfl | exact gvE hg rfl)) ?_
  refine OPS.val rfl rfl rfl ((by first | exact Ev.pickOr rfl rfl rfl | exact Ev.pickAnd rfl rfl rfl)) ?_
  refine OPS.nil ?_
  refine WP.cond rfl (fun hc6 => ?_) (fun hc6 => ?_)
  · refine WP.seq ?_
    refine WP.region ?_
    refine OPS.val rfl rfl rfl (Ev.asB rfl) ?_
    refine OPS.nil ?_
    refine WP.ret ⟨_, rfl, ?_⟩
    exact absurd hc6 (by simp; omega)
  refine WP.skip ?_
  refine WP.seq ?_
  refine WP.region ?_
  refine OPS.val rfl rfl rfl ((by first | exact Ev.loadO 0 H rfl (agg_run rfl) (size_run rfl) (by first | assumption | rfl) rfl | exact Ev.loadO 1 H rfl (agg_run rfl) (size_run rfl) (by first | assumption | rfl) rfl | exact Ev.loadO 2 H rfl (agg_run rfl) (size_run rfl) (by first | assumption | rfl) rfl | exact Ev.loadO 3 H rfl (agg_run rfl) (size_run rfl) (by first | assumption | rfl) rfl | exact Ev.loadO 4 H rfl (agg_run rfl) (size_run rfl) (by first | assumption | rfl) rfl | exact Ev.loadO 5 H rfl (agg_run rfl) (size_run rfl) (by first | assumption | rfl) rfl | exact Ev.loadO 6 H rfl (agg_run rfl) (size_run rfl) (by first | assumption | rfl) rfl | (change Ev _ _ _ _ (Op.load 28 (Operand.tmp 4)) _; fail))) ?_
  refine OPS.alloc rfl rfl rfl rfl (zero_run rfl) rfl H ?_
  clear H; intro g12 w H
  first | refine OPS.store 0 _ rfl rfl rfl (size_run rfl) rfl (cA rfl) rfl rfl H rfl (by simp) ?_ | refine OPS.store 1 _ rfl rfl rfl (size_run rfl) rfl (cA rfl) rfl rfl H rfl (by simp) ?_ | refine OPS.store 2 _ rfl rfl rfl (size_run rfl) rfl (cA rfl) rfl rfl H rfl (by simp) ?_ | refine OPS.store 3 _ rfl rfl rfl (size_run rfl) rfl (cA rfl) rfl rfl H rfl (by simp) ?_ | refine OPS.store 4 _ rfl rfl rfl (size_run rfl) rfl (cA rfl) rfl rfl H rfl (by simp) ?_ | refine OPS.store 5 _ rfl rfl rfl (size_run rfl) rfl (cA rfl) rfl rfl H rfl (by simp) ?_ | refine OPS.store 6 _ rfl rfl rfl (size_run rfl) rfl (cA rfl) rfl rfl H rfl (by simp) ?_ | refine OPS.store 7 _ rfl rfl rfl (size_run rfl) rfl (cA rfl) rfl rfl H rfl (by simp) ?_ | refine OPS.store 8 _ rfl rfl rfl (size_run rfl) rfl (cA rfl) rfl rfl H rfl (by simp) ?_
  clear H; intro w H; try simp only [List.set_cons_zero, List.set_cons_succ, putL, Nat.zero_add] at H
  refine OPS.nil ?_
  refine WP.seq ?_
  refine WP.region ?_
  refine OPS.buildSlice rfl rfl rfl rfl (bsl_25_0_ (e := fun _ => .int .i64 0)) H ?_
  clear H; intro g55 w H
  refine OPS.val rfl rfl rfl (Ev.fieldAddr (fld_run rfl) rfl) ?_
  refine OPS.val rfl rfl rfl (Ev.load1 (agg_run rfl) rfl (by first | exact H.ldL 0 rfl _ rfl | exact H.ldL 1 rfl _ rfl | exact H.ldL 2 rfl _ rfl | exact H.ldL 3 rfl _ rfl | exact H.ldL 4 rfl _ rfl | exact H.ldL 5 rfl _ rfl | exact H.ldL 6 rfl _ rfl | exact H.ldL 7 rfl _ rfl | exact H.ld0 (by assumption) | assumption | exact H.ldS (by assumption) (by assumption))) ?_
  refine OPS.appendE (m := ts.length) (news := ts.flatMap truckCells) (R := [⟨g12, 28, [I m, .slice A l.length ca, .slice B ts.length cb, .slice C ns.length cc, I hd]⟩, ⟨g7, 62, [I ed.f, I ed.t, I ed.secs]⟩, ⟨g6, 60, [.int .u16 ma, .int .u16 mb, .int .u16 mc]⟩, ⟨g5, 35, [I q, .slice R rn.length cr]⟩, ⟨g4, 28, [I m, .slice A l.length ca, .slice B ts.length cb, .slice C ns.length cc, I hd]⟩]) rfl rfl rfl rfl rfl (sl_run rfl) rfl rfl (OwnS.empty (g := g55)) (rows_length truckCells_len ts) (rowsSrc truckCells_len (hN.sh H).t) (rows_one (fun _ => rfl) ts) (by omega) (by unfold maxLen; omega) H (by exact perm_by fun f => by simp [I] <;> omega) ?_
  clear H; intro BT capT LT w hOT H
  rw [Nat.zero_add, List.nil_append] at hOT
  rw [show 0 + ts.length = ts.length from Nat.zero_add _]
  obtain ⟨gt, sp, rfl, rfl, hleT, hmxT, hlenT⟩ : ∃ (gt : Nat) (sp : List Value), BT = some ⟨gt, 0, none⟩ ∧ LT = [⟨gt, 52, ts.flatMap truckCells ++ sp⟩] ∧ ts.length ≤ capT ∧ capT ≤ maxLen ∧ (ts.flatMap truckCells ++ sp).length = capT * 4 := by
    rcases hOT.form with ⟨_, h0, _, _⟩ | h
    · omega
    · exact h
  simp only [List.cons_append, List.nil_append] at H
  refine OPS.val rfl rfl rfl (Ev.fieldAddr (fld_run rfl) rfl) ?_
  first | refine OPS.store 0 _ rfl rfl rfl (size_run rfl) rfl (cS rfl) rfl rfl H rfl (by simp) ?_ | refine OPS.store 1 _ rfl rfl rfl (size_run rfl) rfl (cS rfl) rfl rfl H rfl (by simp) ?_ | refine OPS.store 2 _ rfl rfl rfl (size_run rfl) rfl (cS rfl) rfl rfl H rfl (by simp) ?_ | refine OPS.store 3 _ rfl rfl rfl (size_run rfl) rfl (cS rfl) rfl rfl H rfl (by simp) ?_ | refine OPS.store 4 _ rfl rfl rfl (size_run rfl) rfl (cS rfl) rfl rfl H rfl (by simp) ?_ | refine OPS.store 5 _ rfl rfl rfl (size_run rfl) rfl (cS rfl) rfl rfl H rfl (by simp) ?_ | refine OPS.store 6 _ rfl rfl rfl (size_run rfl) rfl (cS rfl) rfl rfl H rfl (by simp) ?_ | refine OPS.store 7 _ rfl rfl rfl (size_run rfl) rfl (cS rfl) rfl rfl H rfl (by simp) ?_ | refine OPS.store 8 _ rfl rfl rfl (size_run rfl) rfl (cS rfl) rfl rfl H rfl (by simp) ?_
  clear H; intro w H; try simp only [List.set_cons_zero, List.set_cons_succ, putL, Nat.zero_add] at H
  refine OPS.nil ?_
  refine WP.seq ?_
  refine WP.region ?_
  refine OPS.val rfl rfl rfl (Ev.fieldAddr (fld_run rfl) rfl) ?_
  refine OPS.val rfl rfl rfl (Ev.load1 (agg_run rfl) rfl (by first | exact H.ldL 0 rfl _ rfl | exact H.ldL 1 rfl _ rfl | exact H.ldL 2 rfl _ rfl | exact H.ldL 3 rfl _ rfl | exact H.ldL 4 rfl _ rfl | exact H.ldL 5 rfl _ rfl | exact H.ldL 6 rfl _ rfl | exact H.ldL 7 rfl _ rfl | exact H.ld0 (by assumption) | assumption | exact H.ldS (by assumption) (by assumption))) ?_
  refine OPS.val rfl rfl rfl (Ev.fieldAddr (fld_run rfl) rfl) ?_
  refine OPS.val rfl rfl rfl (Ev.load1 (agg_run rfl) rfl (by first | exact H.ldL 0 rfl _ rfl | exact H.ldL 1 rfl _ rfl | exact H.ldL 2 rfl _ rfl | exact H.ldL 3 rfl _ rfl | exact H.ldL 4 rfl _ rfl | exact H.ldL 5 rfl _ rfl | exact H.ldL 6 rfl _ rfl | exact H.ldL 7 rfl _ rfl | exact H.ld0 (by assumption) | assumption | exact H.ldS (by assumption) (by assumption))) ?_
  refine OPS.val rfl rfl rfl ((by first | exact Ev.indexAddr1 (el_run rfl) (size_run rfl) rfl rfl rfl (by omega) | exact Ev.indexAddr (el_run rfl) (size_run rfl) rfl rfl rfl (by omega))) ?_
  refine OPS.val rfl rfl rfl (Ev.asP rfl) ?_
  refine OPS.nil ?_
  refine WP.seq ?_
  refine WP.rtail 12 mixed (by kernel_rfl) H ?_
  clear H; intro w hbw11 H
  refine OPS.val rfl rfl rfl (Ev.mvP rfl) ?_
  refine OPS.val rfl rfl rfl (Ev.mvP rfl) ?_
  refine OPS.val rfl rfl rfl ((by first | exact Ev.nilCheckP rfl | exact Ev.nilCheckF rfl)) ?_
  refine OPS.val rfl rfl rfl (Ev.fieldAddr (fld_run rfl) rfl) ?_
  have hcl := rows_length truckCells_len ts
  obtain ⟨_, _, e1, hcap⟩ := (rowsOwn truckCells_len H 5 rfl : RowsAt 4 truckCells w (some ⟨gt, 0, none⟩) ts) q hq
  cases e1
  rw [hgt] at hcap
  replace hcap : w.cell? ⟨gt, 0 + q * 4 + 1, none⟩ = some (I t.cap) := hcap.2.1
  refine OPS.val rfl rfl rfl (Ev.load1 (agg_run rfl) rfl (by first | exact H.ldL 0 rfl _ rfl | exact H.ldL 1 rfl _ rfl | exact H.ldL 2 rfl _ rfl | exact H.ldL 3 rfl _ rfl | exact H.ldL 4 rfl _ rfl | exact H.ldL 5 rfl _ rfl | exact H.ldL 6 rfl _ rfl | exact H.ldL 7 rfl _ rfl | exact H.ld0 (by assumption) | assumption | exact H.ldS (by assumption) (by assumption))) ?_
  refine OPS.val rfl rfl rfl (Ev.indexAddrA (arr_run rfl) (size_run rfl) rfl rfl rfl (by decide)) ?_
  refine OPS.val rfl rfl rfl (Ev.load1 (agg_run rfl) rfl (by first | exact H.ldL 0 rfl _ rfl | exact H.ldL 1 rfl _ rfl | exact H.ldL 2 rfl _ rfl | exact H.ldL 3 rfl _ rfl | exact H.ldL 4 rfl _ rfl | exact H.ldL 5 rfl _ rfl | exact H.ldL 6 rfl _ rfl | exact H.ldL 7 rfl _ rfl | exact H.ld0 (by assumption) | assumption | exact H.ldS (by assumption) (by assumption))) ?_
  refine OPS.val rfl rfl rfl ((by first | exact Ev.convI (ik_run rfl) (ik_run rfl) rfl (by unfold fits; omega) | exact Ev.conv (ik_run rfl) (ik_run rfl) rfl)) ?_
  refine OPS.val rfl rfl rfl (Ev.add rfl rfl (by unfold fits; omega)) ?_
  refine OPS.val rfl rfl rfl (Ev.min rfl rfl) ?_
  refine OPS.val rfl rfl rfl ((by first | exact Ev.nilCheckP rfl | exact Ev.nilCheckF rfl)) ?_
  refine OPS.val rfl rfl rfl (Ev.fieldAddr (fld_run rfl) rfl) ?_
  refine OPS.nil_s ?_
  have hpu : putL (ts.flatMap truckCells ++ sp) (0 + q * 4 + 1) [I (minI 32 (t.cap + ma))] = (ts.set q ⟨t.depot, minI 32 (t.cap + ma), t.from_, t.to_⟩).flatMap truckCells ++ sp := by
    simp only [putL]
    rw [Nat.zero_add, List.set_append_left _ _ (by omega), rows_set truckCells_len ts q 1 ⟨t.depot, minI 32 (t.cap + ma), t.from_, t.to_⟩ _ hq (by decide) (by rw [hgt]; rfl)]
  refine OPS.store (vs := [I (minI 32 (t.cap + ma))]) 5 _ rfl rfl rfl (size_run rfl) rfl (cI rfl) rfl rfl H rfl (by simp only [List.length_append, List.length_cons, List.length_nil]; omega) ?_
  clear H; intro w H
  simp only [List.set_cons_zero, List.set_cons_succ] at H
  rw [hpu] at H
  refine OPS.nil ?_
  refine WP.seq ?_
  refine WP.rtail 14 mixed (by kernel_rfl) H ?_
  clear H; intro w hbw12 H
  refine OPS.val rfl rfl rfl (Ev.mvP rfl) ?_
  refine OPS.val rfl rfl rfl (Ev.mvP rfl) ?_
  refine OPS.val rfl rfl rfl ((by first | exact Ev.nilCheckP rfl | exact Ev.nilCheckF rfl)) ?_
  refine OPS.val rfl rfl rfl (Ev.fieldAddr (fld_run rfl) rfl) ?_
  refine OPS.val rfl rfl rfl (Ev.fieldAddr (fld_run rfl) rfl) ?_
  have hcl2 := rows_length truckCells_len (ts.set q ⟨t.depot, minI 32 (t.cap + ma), t.from_, t.to_⟩)
  rw [List.length_set] at hcl2
  obtain ⟨_, _, e1, hto⟩ := (rowsOwn truckCells_len H 5 rfl : RowsAt 4 truckCells w (some ⟨gt, 0, none⟩) (ts.set q ⟨t.depot, minI 32 (t.cap + ma), t.from_, t.to_⟩)) q (by rw [List.length_set]; exact hq)
  cases e1
  rw [List.getElem_set_self] at hto
  replace hto : w.cell? ⟨gt, 0 + q * 4 + 2 + 1, none⟩ = some (I t.to_) := hto.2.2.2.1
  refine OPS.val rfl rfl rfl (Ev.load1 (agg_run rfl) rfl (by first | exact H.ldL 0 rfl _ rfl | exact H.ldL 1 rfl _ rfl | exact H.ldL 2 rfl _ rfl | exact H.ldL 3 rfl _ rfl | exact H.ldL 4 rfl _ rfl | exact H.ldL 5 rfl _ rfl | exact H.ldL 6 rfl _ rfl | exact H.ldL 7 rfl _ rfl | exact H.ld0 (by assumption) | assumption | exact H.ldS (by assumption) (by assumption))) ?_
  refine OPS.val rfl rfl rfl (Ev.indexAddrA (arr_run rfl) (size_run rfl) rfl rfl rfl (by decide)) ?_
  refine OPS.val rfl rfl rfl (Ev.load1 (agg_run rfl) rfl (by first | exact H.ldL 0 rfl _ rfl | exact H.ldL 1 rfl _ rfl | exact H.ldL 2 rfl _ rfl | exact H.ldL 3 rfl _ rfl | exact H.ldL 4 rfl _ rfl | exact H.ldL 5 rfl _ rfl | exact H.ldL 6 rfl _ rfl | exact H.ldL 7 rfl _ rfl | exact H.ld0 (by assumption) | assumption | exact H.ldS (by assumption) (by assumption))) ?_
  refine OPS.val rfl rfl rfl ((by first | exact Ev.convI (ik_run rfl) (ik_run rfl) rfl (by unfold fits; omega) | exact Ev.conv (ik_run rfl) (ik_run rfl) rfl)) ?_
  refine OPS.val rfl rfl rfl (Ev.add rfl rfl (by unfold fits; omega)) ?_
  refine OPS.val rfl rfl rfl (Ev.min rfl rfl) ?_
  refine OPS.val rfl rfl rfl ((by first | exact Ev.nilCheckP rfl | exact Ev.nilCheckF rfl)) ?_
  refine OPS.val rfl rfl rfl (Ev.fieldAddr (fld_run rfl) rfl) ?_
  refine OPS.val rfl rfl rfl (Ev.fieldAddr (fld_run rfl) rfl) ?_
  refine OPS.nil_s ?_
  have hpu : putL ((ts.set q ⟨t.depot, minI 32 (t.cap + ma), t.from_, t.to_⟩).flatMap truckCells ++ sp) (0 + q * 4 + 2 + 1) [I (minI 86400 (t.to_ + mb))] = (ts.set q ⟨t.depot, minI 32 (t.cap + ma), t.from_, minI 86400 (t.to_ + mb)⟩).flatMap truckCells ++ sp := by
    simp only [putL]
    rw [Nat.zero_add, List.set_append_left _ _ (by omega), show q * 4 + 2 + 1 = q * 4 + 3 from rfl, rows_set truckCells_len (ts.set q ⟨t.depot, minI 32 (t.cap + ma), t.from_, t.to_⟩) q 3 ⟨t.depot, minI 32 (t.cap + ma), t.from_, minI 86400 (t.to_ + mb)⟩ _ (by rw [List.length_set]; exact hq) (by decide) (by rw [List.getElem_set_self]; rfl), List.set_set]
  refine OPS.store (vs := [I (minI 86400 (t.to_ + mb))]) 5 _ rfl rfl rfl (size_run rfl) rfl (cI rfl) rfl rfl H rfl (by simp only [List.length_append, List.length_cons, List.length_nil]; omega) ?_
  clear H; intro w H
  simp only [List.set_cons_zero, List.set_cons_succ] at H
  rw [hpu] at H
  refine OPS.nil ?_
  have hca : t.cap ≤ minI 32 (t.cap + ma) ∧ 1 ≤ minI 32 (t.cap + ma) ∧ minI 32 (t.cap + ma) ≤ 32 := by unfold minI; split <;> omega
  have hta : t.to_ ≤ minI 86400 (t.to_ + mb) ∧ minI 86400 (t.to_ + mb) ≤ 86400 := by unfold minI; split <;> omega
  generalize minI 32 (t.cap + ma) = cap2 at *
  generalize minI 86400 (t.to_ + mb) = to2 at *
  generalize ht2 : (⟨t.depot, cap2, t.from_, to2⟩ : Truck) = t2 at *
  have ht2a : (0 ≤ t2.depot ∧ t2.depot < m) ∧ (1 ≤ t2.cap ∧ t2.cap ≤ 32) ∧ 0 ≤ t2.from_ ∧ t2.from_ ≤ t2.to_ ∧ t2.to_ ≤ 86400 := by subst ht2; simp; omega
  have hE1 : Eases m q l l ts (ts.set q t2) ns hd hd t t2 := ⟨nightOk_set hW.night ht2a, faster_refl _ _, List.length_set, by simp [hq], by subst ht2; rfl, by subst ht2; rfl, by subst ht2; exact hca.1, by subst ht2; exact hta.1, by omega⟩
  obtain ⟨w1, W1, b1⟩ := hW.eases he hE1
  have b1' : outB' m l (ts.set q t2) ns hd q rn = outB' m l ts ns hd q rn := by
    rw [W1.B, hW.B]
    subst ht2
    rfl
  have hlen2 : (ts.set q t2).length = ts.length := List.length_set
  have hcall := truckWalkP m hd q A (some ⟨gt, 0, none⟩) C R l (ts.set q t2) ns rn ca capT cc cr w (hN.sh H).l (rowsOwn truckCells_len H 5 rfl) (hN.sh H).n hN.c (hr.sh H) hrl hrc
  rw [hlen2, w1, b1'] at hcall
  refine WP.seq ?_
  refine WP.region ?_
  refine OPS.val rfl rfl rfl ((by first | exact Ev.loadO 0 H rfl (agg_run rfl) (size_run rfl) (by first | assumption | rfl) rfl | exact Ev.loadO 1 H rfl (agg_run rfl) (size_run rfl) (by first | assumption | rfl) rfl | exact Ev.loadO 2 H rfl (agg_run rfl) (size_run rfl) (by first | assumption | rfl) rfl | exact Ev.loadO 3 H rfl (agg_run rfl) (size_run rfl) (by first | assumption | rfl) rfl | exact Ev.loadO 4 H rfl (agg_run rfl) (size_run rfl) (by first | assumption | rfl) rfl | exact Ev.loadO 5 H rfl (agg_run rfl) (size_run rfl) (by first | assumption | rfl) rfl | exact Ev.loadO 6 H rfl (agg_run rfl) (size_run rfl) (by first | assumption | rfl) rfl | (change Ev _ _ _ _ (Op.load 28 (Operand.tmp 12)) _; fail))) ?_
  refine OPS.val rfl rfl rfl ((by first | exact Ev.loadO 0 H rfl (agg_run rfl) (size_run rfl) (by first | assumption | rfl) rfl | exact Ev.loadO 1 H rfl (agg_run rfl) (size_run rfl) (by first | assumption | rfl) rfl | exact Ev.loadO 2 H rfl (agg_run rfl) (size_run rfl) (by first | assumption | rfl) rfl | exact Ev.loadO 3 H rfl (agg_run rfl) (size_run rfl) (by first | assumption | rfl) rfl | exact Ev.loadO 4 H rfl (agg_run rfl) (size_run rfl) (by first | assumption | rfl) rfl | exact Ev.loadO 5 H rfl (agg_run rfl) (size_run rfl) (by first | assumption | rfl) rfl | exact Ev.loadO 6 H rfl (agg_run rfl) (size_run rfl) (by first | assumption | rfl) rfl | (change Ev _ _ _ _ (Op.load 35 (Operand.tmp 5)) _; fail))) ?_
  refine OPS.call (d := some 94) rfl rfl rfl (EvC.func (fun_run rfl)) (hcall) ?_
  rintro _ w ⟨V1, cv1, Lv1, rfl, hO1, Hc⟩
  refine ⟨_, rfl, ?_⟩
  replace H := H.toBelow Hc.below
  clear Hc hO1 hcall
  refine OPS.val rfl rfl rfl (Ev.mvT rfl) ?_
  refine OPS.val rfl rfl rfl (Ev.extract rfl rfl) ?_
  refine OPS.val rfl rfl rfl (Ev.extract rfl rfl) ?_
  refine OPS.val rfl rfl rfl (Ev.extract rfl rfl) ?_
  refine OPS.val rfl rfl rfl (Ev.asS rfl) ?_
  refine OPS.val rfl rfl rfl (Ev.asI rfl) ?_
  refine OPS.val rfl rfl rfl (Ev.asI rfl) ?_
  refine OPS.nil ?_
  refine WP.seq ?_
  refine WP.region ?_
  refine OPS.val rfl rfl rfl (Ev.fieldAddr (fld_run rfl) rfl) ?_
  refine OPS.val rfl rfl rfl (Ev.load1 (agg_run rfl) rfl (by first | exact H.ldL 0 rfl _ rfl | exact H.ldL 1 rfl _ rfl | exact H.ldL 2 rfl _ rfl | exact H.ldL 3 rfl _ rfl | exact H.ldL 4 rfl _ rfl | exact H.ldL 5 rfl _ rfl | exact H.ldL 6 rfl _ rfl | exact H.ldL 7 rfl _ rfl | exact H.ld0 (by assumption) | assumption | exact H.ldS (by assumption) (by assumption))) ?_
  refine OPS.val rfl rfl rfl (Ev.indexAddrA (arr_run rfl) (size_run rfl) rfl rfl rfl (by decide)) ?_
  refine OPS.val rfl rfl rfl (Ev.load1 (agg_run rfl) rfl (by first | exact H.ldL 0 rfl _ rfl | exact H.ldL 1 rfl _ rfl | exact H.ldL 2 rfl _ rfl | exact H.ldL 3 rfl _ rfl | exact H.ldL 4 rfl _ rfl | exact H.ldL 5 rfl _ rfl | exact H.ldL 6 rfl _ rfl | exact H.ldL 7 rfl _ rfl | exact H.ld0 (by assumption) | assumption | exact H.ldS (by assumption) (by assumption))) ?_
  refine OPS.val rfl rfl rfl ((by first | exact Ev.convI (ik_run rfl) (ik_run rfl) rfl (by unfold fits; omega) | exact Ev.conv (ik_run rfl) (ik_run rfl) rfl)) ?_
  refine OPS.val rfl rfl rfl (Ev.sub rfl rfl (by unfold fits; omega)) ?_
  refine OPS.val rfl rfl rfl (Ev.max rfl rfl) ?_
  refine OPS.val rfl rfl rfl (Ev.fieldAddr (fld_run rfl) rfl) ?_
  first | refine OPS.store 0 _ rfl rfl rfl (size_run rfl) rfl (cI rfl) rfl rfl H rfl (by simp) ?_ | refine OPS.store 1 _ rfl rfl rfl (size_run rfl) rfl (cI rfl) rfl rfl H rfl (by simp) ?_ | refine OPS.store 2 _ rfl rfl rfl (size_run rfl) rfl (cI rfl) rfl rfl H rfl (by simp) ?_ | refine OPS.store 3 _ rfl rfl rfl (size_run rfl) rfl (cI rfl) rfl rfl H rfl (by simp) ?_ | refine OPS.store 4 _ rfl rfl rfl (size_run rfl) rfl (cI rfl) rfl rfl H rfl (by simp) ?_ | refine OPS.store 5 _ rfl rfl rfl (size_run rfl) rfl (cI rfl) rfl rfl H rfl (by simp) ?_ | refine OPS.store 6 _ rfl rfl rfl (size_run rfl) rfl (cI rfl) rfl rfl H rfl (by simp) ?_ | refine OPS.store 7 _ rfl rfl rfl (size_run rfl) rfl (cI rfl) rfl rfl H rfl (by simp) ?_ | refine OPS.store 8 _ rfl rfl rfl (size_run rfl) rfl (cI rfl) rfl rfl H rfl (by simp) ?_
  clear H; intro w H; try simp only [List.set_cons_zero, List.set_cons_succ, putL, Nat.zero_add] at H
  refine OPS.nil ?_
  have hhd : 0 ≤ (if 0 < hd - mc then hd - mc else 0) ∧ (if 0 < hd - mc then hd - mc else 0) ≤ hd := by split <;> omega
  generalize (if 0 < hd - mc then hd - mc else 0) = hd2 at *
  have hE2 : Eases m q l l ts (ts.set q t2) ns hd hd2 t t2 := ⟨⟨hE1.night.road, hE1.night.tl, hE1.night.nl, hE1.night.tr, hE1.night.nd, by omega, hE1.night.one⟩, faster_refl _ _, List.length_set, hE1.ht, hE1.dep, hE1.frm, hE1.cap, hE1.to_, by omega⟩
  obtain ⟨w2, W2, b2⟩ := hW.eases he hE2
  have hcall := truckWalkP m hd2 q A (some ⟨gt, 0, none⟩) C R l (ts.set q t2) ns rn ca capT cc cr w (hN.sh H).l (rowsOwn truckCells_len H 5 rfl) (hN.sh H).n hN.c (hr.sh H) hrl hrc
  rw [hlen2, w2] at hcall
  refine WP.seq ?_
  refine WP.region ?_
  refine OPS.val rfl rfl rfl ((by first | exact Ev.loadO 0 H rfl (agg_run rfl) (size_run rfl) (by first | assumption | rfl) rfl | exact Ev.loadO 1 H rfl (agg_run rfl) (size_run rfl) (by first | assumption | rfl) rfl | exact Ev.loadO 2 H rfl (agg_run rfl) (size_run rfl) (by first | assumption | rfl) rfl | exact Ev.loadO 3 H rfl (agg_run rfl) (size_run rfl) (by first | assumption | rfl) rfl | exact Ev.loadO 4 H rfl (agg_run rfl) (size_run rfl) (by first | assumption | rfl) rfl | exact Ev.loadO 5 H rfl (agg_run rfl) (size_run rfl) (by first | assumption | rfl) rfl | exact Ev.loadO 6 H rfl (agg_run rfl) (size_run rfl) (by first | assumption | rfl) rfl | (change Ev _ _ _ _ (Op.load 28 (Operand.tmp 12)) _; fail))) ?_
  refine OPS.val rfl rfl rfl ((by first | exact Ev.loadO 0 H rfl (agg_run rfl) (size_run rfl) (by first | assumption | rfl) rfl | exact Ev.loadO 1 H rfl (agg_run rfl) (size_run rfl) (by first | assumption | rfl) rfl | exact Ev.loadO 2 H rfl (agg_run rfl) (size_run rfl) (by first | assumption | rfl) rfl | exact Ev.loadO 3 H rfl (agg_run rfl) (size_run rfl) (by first | assumption | rfl) rfl | exact Ev.loadO 4 H rfl (agg_run rfl) (size_run rfl) (by first | assumption | rfl) rfl | exact Ev.loadO 5 H rfl (agg_run rfl) (size_run rfl) (by first | assumption | rfl) rfl | exact Ev.loadO 6 H rfl (agg_run rfl) (size_run rfl) (by first | assumption | rfl) rfl | (change Ev _ _ _ _ (Op.load 35 (Operand.tmp 5)) _; fail))) ?_
  refine OPS.call (d := some 109) rfl rfl rfl (EvC.func (fun_run rfl)) (hcall) ?_
  rintro _ w ⟨V2, cv2, Lv2, rfl, hO2, Hc⟩
  refine ⟨_, rfl, ?_⟩
  replace H := H.toBelow Hc.below
  clear Hc hO2 hcall
  refine OPS.val rfl rfl rfl (Ev.mvT rfl) ?_
  refine OPS.val rfl rfl rfl (Ev.extract rfl rfl) ?_
  refine OPS.val rfl rfl rfl (Ev.extract rfl rfl) ?_
  refine OPS.val rfl rfl rfl (Ev.extract rfl rfl) ?_
  refine OPS.val rfl rfl rfl (Ev.asS rfl) ?_
  refine OPS.val rfl rfl rfl (Ev.asI rfl) ?_
  refine OPS.val rfl rfl rfl (Ev.asI rfl) ?_
  refine OPS.nil ?_
  refine WP.seq ?_
  refine WP.seq ?_
  refine WP.region ?_
  refine OPS.val rfl rfl rfl (Ev.mvI rfl) ?_
  refine OPS.val rfl rfl rfl (Ev.neq rfl rfl) ?_
  refine OPS.val rfl rfl rfl (Ev.mvB rfl) ?_
  refine OPS.gval rfl rfl rfl rfl rfl (fun hg => Ev.mvI (by first | rfl | exact gvE hg rfl)) ?_
  refine OPS.gval rfl rfl rfl rfl rfl (fun hg => Ev.mvI (by first | rfl | exact gvE hg rfl)) ?_
  refine OPS.gval rfl rfl rfl rfl rfl (fun hg => Ev.neq (by first | rfl | exact gvE hg rfl) (by first | rfl | exact gvE hg rfl)) ?_
  refine OPS.val rfl rfl rfl ((by first | exact Ev.pickOr rfl rfl rfl | exact Ev.pickAnd rfl rfl rfl)) ?_
  refine OPS.val rfl rfl rfl (Ev.mvB rfl) ?_
  refine OPS.gval rfl rfl rfl rfl rfl (fun hg => Ev.mvI (by first | rfl | exact gvE hg rfl)) ?_
  refine OPS.gval rfl rfl rfl rfl rfl (fun hg => Ev.neq (by first | rfl | exact gvE hg rfl) (by first | rfl | exact gvE hg rfl)) ?_
  refine OPS.val rfl rfl rfl ((by first | exact Ev.pickOr rfl rfl rfl | exact Ev.pickAnd rfl rfl rfl)) ?_
  refine OPS.val rfl rfl rfl (Ev.mvB rfl) ?_
  refine OPS.gval rfl rfl rfl rfl rfl (fun hg => Ev.mvI (by first | rfl | exact gvE hg rfl)) ?_
  refine OPS.gval rfl rfl rfl rfl rfl (fun hg => Ev.mvI (by first | rfl | exact gvE hg rfl)) ?_
  refine OPS.gval rfl rfl rfl rfl rfl (fun hg => Ev.gtr (by first | rfl | exact gvE hg rfl) (by first | rfl | exact gvE hg rfl)) ?_
  refine OPS.val rfl rfl rfl ((by first | exact Ev.pickOr rfl rfl rfl | exact Ev.pickAnd rfl rfl rfl)) ?_
  refine OPS.nil ?_
  refine WP.cond rfl (fun hc16 => ?_) (fun hc16 => ?_)
  · refine WP.seq ?_
    refine WP.region ?_
    refine OPS.val rfl rfl rfl (Ev.asB rfl) ?_
    refine OPS.nil ?_
    refine WP.ret ⟨_, rfl, ?_⟩
    exact absurd hc16 (by simp; omega)
  refine WP.skip ?_
  refine WP.seq ?_
  have E := H
  replace H := H.drop (List.sublist_cons_self _ _)
  refine WP.rheldC [129, 130, 131, 132, 133, 134, 135, 136, 137, 138] (fun _ w' => ∃ (AE : Option Addr) (ce : Nat) (Le : List Blk), OwnS AE ce (l.length + 1) (l.flatMap edgCells ++ edgCells ed) 62 3 Le ∧ SH w0 [] w' ([⟨g12, 28, [I m, .slice AE (l.length + 1) ce, .slice (some ⟨gt, 0, none⟩) ts.length capT, .slice C ns.length cc, I hd2]⟩, ⟨g7, 62, [I ed.f, I ed.t, I ed.secs]⟩, ⟨g6, 60, [.int .u16 ma, .int .u16 mb, .int .u16 mc]⟩, ⟨g5, 35, [I q, .slice R rn.length cr]⟩, ⟨g4, 28, [I m, .slice A l.length ca, .slice B ts.length cb, .slice C ns.length cc, I hd]⟩, ⟨gt, 52, (ts.set q t2).flatMap truckCells ++ sp⟩] ++ Le)) mixed H ?_ ?_
  · clear H; intro w hbw18 H
    refine OPH.take 1 rfl rfl rfl rfl (by kernel_rfl) (by kernel_rfl) (by kernel_rfl) rfl (by first | exact H | exact H.drop (List.sublist_cons_self _ _) | exact H.drop ((List.sublist_cons_self _ _).trans (List.sublist_cons_self _ _)) | exact H.drop ((List.sublist_cons_self _ _).trans ((List.sublist_cons_self _ _).trans (List.sublist_cons_self _ _))) | exact H.drop ((List.sublist_cons_self _ _).trans ((List.sublist_cons_self _ _).trans ((List.sublist_cons_self _ _).trans (List.sublist_cons_self _ _)))) | exact H.drop ((List.sublist_cons_self _ _).trans ((List.sublist_cons_self _ _).trans ((List.sublist_cons_self _ _).trans ((List.sublist_cons_self _ _).trans (List.sublist_cons_self _ _)))))) (fun w H => Ev.fieldAddr (fld_run rfl) rfl) ?_
    refine OPH.take 2 rfl rfl rfl rfl (by kernel_rfl) (by kernel_rfl) (by kernel_rfl) rfl (by first | exact H | exact H.drop (List.sublist_cons_self _ _) | exact H.drop ((List.sublist_cons_self _ _).trans (List.sublist_cons_self _ _)) | exact H.drop ((List.sublist_cons_self _ _).trans ((List.sublist_cons_self _ _).trans (List.sublist_cons_self _ _))) | exact H.drop ((List.sublist_cons_self _ _).trans ((List.sublist_cons_self _ _).trans ((List.sublist_cons_self _ _).trans (List.sublist_cons_self _ _)))) | exact H.drop ((List.sublist_cons_self _ _).trans ((List.sublist_cons_self _ _).trans ((List.sublist_cons_self _ _).trans ((List.sublist_cons_self _ _).trans (List.sublist_cons_self _ _)))))) (fun w H => Ev.fieldAddr (fld_run rfl) rfl) ?_
    refine OPH.take 3 rfl rfl rfl rfl (by kernel_rfl) (by kernel_rfl) (by kernel_rfl) rfl (by first | exact H | exact H.drop (List.sublist_cons_self _ _) | exact H.drop ((List.sublist_cons_self _ _).trans (List.sublist_cons_self _ _)) | exact H.drop ((List.sublist_cons_self _ _).trans ((List.sublist_cons_self _ _).trans (List.sublist_cons_self _ _))) | exact H.drop ((List.sublist_cons_self _ _).trans ((List.sublist_cons_self _ _).trans ((List.sublist_cons_self _ _).trans (List.sublist_cons_self _ _)))) | exact H.drop ((List.sublist_cons_self _ _).trans ((List.sublist_cons_self _ _).trans ((List.sublist_cons_self _ _).trans ((List.sublist_cons_self _ _).trans (List.sublist_cons_self _ _)))))) (fun w H => Ev.load1 (agg_run rfl) rfl (by first | exact H.ldL 0 rfl _ rfl | exact H.ldL 1 rfl _ rfl | exact H.ldL 2 rfl _ rfl | exact H.ldL 3 rfl _ rfl | exact H.ldL 4 rfl _ rfl | exact H.ldL 5 rfl _ rfl | exact H.ldL 6 rfl _ rfl | exact H.ldL 7 rfl _ rfl | exact H.ld0 (by assumption) | assumption | exact H.ldS (by assumption) (by assumption))) ?_
    refine OPH.take 5 rfl rfl rfl rfl (by kernel_rfl) (by kernel_rfl) (by kernel_rfl) rfl (by first | exact H | exact H.drop (List.sublist_cons_self _ _) | exact H.drop ((List.sublist_cons_self _ _).trans (List.sublist_cons_self _ _)) | exact H.drop ((List.sublist_cons_self _ _).trans ((List.sublist_cons_self _ _).trans (List.sublist_cons_self _ _))) | exact H.drop ((List.sublist_cons_self _ _).trans ((List.sublist_cons_self _ _).trans ((List.sublist_cons_self _ _).trans (List.sublist_cons_self _ _)))) | exact H.drop ((List.sublist_cons_self _ _).trans ((List.sublist_cons_self _ _).trans ((List.sublist_cons_self _ _).trans ((List.sublist_cons_self _ _).trans (List.sublist_cons_self _ _)))))) (fun w H => (by first | exact Ev.loadO 0 H rfl (agg_run rfl) (size_run rfl) (by first | assumption | rfl) rfl | exact Ev.loadO 1 H rfl (agg_run rfl) (size_run rfl) (by first | assumption | rfl) rfl | exact Ev.loadO 2 H rfl (agg_run rfl) (size_run rfl) (by first | assumption | rfl) rfl | exact Ev.loadO 3 H rfl (agg_run rfl) (size_run rfl) (by first | assumption | rfl) rfl | exact Ev.loadO 4 H rfl (agg_run rfl) (size_run rfl) (by first | assumption | rfl) rfl | exact Ev.loadO 5 H rfl (agg_run rfl) (size_run rfl) (by first | assumption | rfl) rfl | exact Ev.loadO 6 H rfl (agg_run rfl) (size_run rfl) (by first | assumption | rfl) rfl | (change Ev _ _ _ _ (Op.load 62 (Operand.tmp 7)) _; fail))) ?_
    refine OPH.all [0, 6] (by kernel_rfl) (by simp) rfl ?_
    intro i hi; simp only [List.mem_cons, List.not_mem_nil, or_false] at hi
    rcases hi with rfl | rfl
    · refine ⟨_, rfl, ?_⟩
      first
      | (refine OPS.buildSlice rfl rfl rfl rfl (bsl_22_0_ (e := fun _ => .int .i64 0)) E6 ?_
         clear H; intro g129 w E06; clear E6
         have H := ((E06.drop (List.sublist_cons_self _ _)).drop (List.sublist_cons_self _ _)).drop (List.sublist_cons_self _ _))
      | (refine OPS.buildSlice rfl rfl rfl rfl (bsl_22_0_ (e := fun _ => .int .i64 0)) (E.toBelow hbw18) ?_
         clear H; intro g129 w E0; clear E
         have H := (E0.drop (List.sublist_cons_self _ _)).drop (List.sublist_cons_self _ _))
      refine OPS.nil ?_
      refine ⟨(by first | exact H | exact H.drop (List.sublist_cons_self _ _) | exact H.drop ((List.sublist_cons_self _ _).trans (List.sublist_cons_self _ _)) | exact H.drop ((List.sublist_cons_self _ _).trans ((List.sublist_cons_self _ _).trans (List.sublist_cons_self _ _))) | exact H.drop ((List.sublist_cons_self _ _).trans ((List.sublist_cons_self _ _).trans ((List.sublist_cons_self _ _).trans (List.sublist_cons_self _ _)))) | exact H.drop ((List.sublist_cons_self _ _).trans ((List.sublist_cons_self _ _).trans ((List.sublist_cons_self _ _).trans ((List.sublist_cons_self _ _).trans (List.sublist_cons_self _ _)))))), ?_⟩
      refine OPH.all [4, 6] (by kernel_rfl) (by simp) rfl ?_
      intro i hi; simp only [List.mem_cons, List.not_mem_nil, or_false] at hi
      rcases hi with rfl | rfl
      · refine ⟨_, rfl, ?_⟩
        first
        | (refine OPS.appendE (m := l.length) (news := l.flatMap edgCells) (R := [⟨g135, 62, [I ed.f, I ed.t, I ed.secs]⟩, ⟨g12, 28, [I m, .slice A l.length ca, .slice (some ⟨gt, 0, none⟩) ts.length capT, .slice C ns.length cc, I hd2]⟩, ⟨g7, 62, [I ed.f, I ed.t, I ed.secs]⟩, ⟨g6, 60, [.int .u16 ma, .int .u16 mb, .int .u16 mc]⟩, ⟨g5, 35, [I q, .slice R rn.length cr]⟩, ⟨g4, 28, [I m, .slice A l.length ca, .slice B ts.length cb, .slice C ns.length cc, I hd]⟩, ⟨gt, 52, (ts.set q t2).flatMap truckCells ++ sp⟩]) rfl rfl rfl rfl rfl (sl_run rfl) rfl rfl (OwnS.empty (g := g129)) (rows_length edgCells_len l) (rowsSrc edgCells_len (hN.sh H).l) (rows_one (fun _ => rfl) l) (by omega) (by unfold maxLen; omega) E06 (by exact perm_by fun f => by simp [I] <;> omega) ?_
           clear H; intro AE ce Le w hOE E046; clear E06
           have H := ((E046.drop (List.sublist_cons_self _ _)).drop (List.sublist_append_left _ _)).drop (List.sublist_cons_self _ _)
           rw [Nat.zero_add, List.nil_append] at hOE
           rw [show 0 + l.length = l.length from Nat.zero_add _])
        | (refine OPS.appendE (m := l.length) (news := l.flatMap edgCells) (R := [⟨g12, 28, [I m, .slice A l.length ca, .slice (some ⟨gt, 0, none⟩) ts.length capT, .slice C ns.length cc, I hd2]⟩, ⟨g7, 62, [I ed.f, I ed.t, I ed.secs]⟩, ⟨g6, 60, [.int .u16 ma, .int .u16 mb, .int .u16 mc]⟩, ⟨g5, 35, [I q, .slice R rn.length cr]⟩, ⟨g4, 28, [I m, .slice A l.length ca, .slice B ts.length cb, .slice C ns.length cc, I hd]⟩, ⟨gt, 52, (ts.set q t2).flatMap truckCells ++ sp⟩]) rfl rfl rfl rfl rfl (sl_run rfl) rfl rfl (OwnS.empty (g := g129)) (rows_length edgCells_len l) (rowsSrc edgCells_len (hN.sh H).l) (rows_one (fun _ => rfl) l) (by omega) (by unfold maxLen; omega) E0 (by exact perm_by fun f => by simp [I] <;> omega) ?_
           clear H; intro AE ce Le w hOE E04; clear E0
           have H := (E04.drop (List.sublist_append_left _ _)).drop (List.sublist_cons_self _ _)
           rw [Nat.zero_add, List.nil_append] at hOE
           rw [show 0 + l.length = l.length from Nat.zero_add _])
        refine OPS.nil ?_
        refine ⟨(by first | exact H | exact H.drop (List.sublist_cons_self _ _) | exact H.drop ((List.sublist_cons_self _ _).trans (List.sublist_cons_self _ _)) | exact H.drop ((List.sublist_cons_self _ _).trans ((List.sublist_cons_self _ _).trans (List.sublist_cons_self _ _))) | exact H.drop ((List.sublist_cons_self _ _).trans ((List.sublist_cons_self _ _).trans ((List.sublist_cons_self _ _).trans (List.sublist_cons_self _ _)))) | exact H.drop ((List.sublist_cons_self _ _).trans ((List.sublist_cons_self _ _).trans ((List.sublist_cons_self _ _).trans ((List.sublist_cons_self _ _).trans (List.sublist_cons_self _ _)))))), ?_⟩
        refine OPH.all [6] (by kernel_rfl) (by simp) rfl ?_
        intro i hi; simp only [List.mem_cons, List.not_mem_nil, or_false] at hi
        rcases hi with rfl
        · refine ⟨_, rfl, ?_⟩
          first
          | (refine OPS.buildSlice rfl rfl rfl rfl (bsl_22_1_0 rfl) E04 ?_
             clear H; intro g135 w E046; clear E04
             have H := ((E046.drop (List.sublist_cons_self _ _)).drop (List.sublist_append_left _ _)).drop (List.sublist_cons_self _ _))
          | (refine OPS.buildSlice rfl rfl rfl rfl (bsl_22_1_0 rfl) E0 ?_
             clear H; intro g135 w E60; clear E0
             have E06 := E60.perm (List.Perm.swap _ _ _)
             clear E60
             have H := ((E06.drop (List.sublist_cons_self _ _)).drop (List.sublist_cons_self _ _)).drop (List.sublist_cons_self _ _))
          | (refine OPS.buildSlice rfl rfl rfl rfl (bsl_22_1_0 rfl) (E.toBelow hbw18) ?_
             clear H; intro g135 w E6; clear E
             have H := (E6.drop (List.sublist_cons_self _ _)).drop (List.sublist_cons_self _ _))
          refine OPS.nil ?_
          refine ⟨(by first | exact H | exact H.drop (List.sublist_cons_self _ _) | exact H.drop ((List.sublist_cons_self _ _).trans (List.sublist_cons_self _ _)) | exact H.drop ((List.sublist_cons_self _ _).trans ((List.sublist_cons_self _ _).trans (List.sublist_cons_self _ _))) | exact H.drop ((List.sublist_cons_self _ _).trans ((List.sublist_cons_self _ _).trans ((List.sublist_cons_self _ _).trans (List.sublist_cons_self _ _)))) | exact H.drop ((List.sublist_cons_self _ _).trans ((List.sublist_cons_self _ _).trans ((List.sublist_cons_self _ _).trans ((List.sublist_cons_self _ _).trans (List.sublist_cons_self _ _)))))), ?_⟩
          refine OPH.all [7] (by kernel_rfl) (by simp) rfl ?_
          intro i hi; simp only [List.mem_cons, List.not_mem_nil, or_false] at hi
          rcases hi with rfl
          · refine ⟨_, rfl, ?_⟩
            refine OPS.append (m := 1) (news := edgCells ed) (R := [⟨g135, 62, [I ed.f, I ed.t, I ed.secs]⟩, ⟨g12, 28, [I m, .slice A l.length ca, .slice (some ⟨gt, 0, none⟩) ts.length capT, .slice C ns.length cc, I hd2]⟩, ⟨g7, 62, [I ed.f, I ed.t, I ed.secs]⟩, ⟨g6, 60, [.int .u16 ma, .int .u16 mb, .int .u16 mc]⟩, ⟨g5, 35, [I q, .slice R rn.length cr]⟩, ⟨g4, 28, [I m, .slice A l.length ca, .slice B ts.length cb, .slice C ns.length cc, I hd]⟩, ⟨gt, 52, (ts.set q t2).flatMap truckCells ++ sp⟩]) rfl rfl rfl rfl rfl (sl_run rfl) rfl rfl hOE rfl (src_own E046 0 rfl) rfl (by omega) (by unfold maxLen; omega) E046 (List.Perm.refl _) ?_
            clear H hOE; intro AE ce Le w hOE E7; clear E046
            have H := ((E7.drop (List.sublist_cons_self _ _)).drop (List.sublist_append_left _ _)).drop (List.sublist_cons_self _ _)
            refine OPS.nil ?_
            refine ⟨(by first | exact H | exact H.drop (List.sublist_cons_self _ _) | exact H.drop ((List.sublist_cons_self _ _).trans (List.sublist_cons_self _ _)) | exact H.drop ((List.sublist_cons_self _ _).trans ((List.sublist_cons_self _ _).trans (List.sublist_cons_self _ _))) | exact H.drop ((List.sublist_cons_self _ _).trans ((List.sublist_cons_self _ _).trans ((List.sublist_cons_self _ _).trans (List.sublist_cons_self _ _)))) | exact H.drop ((List.sublist_cons_self _ _).trans ((List.sublist_cons_self _ _).trans ((List.sublist_cons_self _ _).trans ((List.sublist_cons_self _ _).trans (List.sublist_cons_self _ _)))))), ?_⟩
            refine OPH.take 8 rfl rfl rfl rfl (by kernel_rfl) (by kernel_rfl) (by kernel_rfl) rfl (by first | exact H | exact H.drop (List.sublist_cons_self _ _) | exact H.drop ((List.sublist_cons_self _ _).trans (List.sublist_cons_self _ _)) | exact H.drop ((List.sublist_cons_self _ _).trans ((List.sublist_cons_self _ _).trans (List.sublist_cons_self _ _))) | exact H.drop ((List.sublist_cons_self _ _).trans ((List.sublist_cons_self _ _).trans ((List.sublist_cons_self _ _).trans (List.sublist_cons_self _ _)))) | exact H.drop ((List.sublist_cons_self _ _).trans ((List.sublist_cons_self _ _).trans ((List.sublist_cons_self _ _).trans ((List.sublist_cons_self _ _).trans (List.sublist_cons_self _ _)))))) (fun w H => Ev.fieldAddr (fld_run rfl) rfl) ?_
            refine OPH.take 9 rfl rfl rfl rfl (by kernel_rfl) (by kernel_rfl) (by kernel_rfl) rfl (by first | exact H | exact H.drop (List.sublist_cons_self _ _) | exact H.drop ((List.sublist_cons_self _ _).trans (List.sublist_cons_self _ _)) | exact H.drop ((List.sublist_cons_self _ _).trans ((List.sublist_cons_self _ _).trans (List.sublist_cons_self _ _))) | exact H.drop ((List.sublist_cons_self _ _).trans ((List.sublist_cons_self _ _).trans ((List.sublist_cons_self _ _).trans (List.sublist_cons_self _ _)))) | exact H.drop ((List.sublist_cons_self _ _).trans ((List.sublist_cons_self _ _).trans ((List.sublist_cons_self _ _).trans ((List.sublist_cons_self _ _).trans (List.sublist_cons_self _ _)))))) (fun w H => Ev.fieldAddr (fld_run rfl) rfl) ?_
            refine OPH.all [10] (by kernel_rfl) (by simp) rfl ?_
            intro i hi; simp only [List.mem_cons, List.not_mem_nil, or_false] at hi
            rcases hi with rfl
            · refine ⟨_, rfl, ?_⟩
              refine OPS.store 1 _ rfl rfl rfl (size_run rfl) rfl (cS rfl) rfl rfl E7 rfl (by simp) ?_
              clear H; intro w E8; clear E7
              simp only [List.set_cons_zero, List.set_cons_succ, List.cons_append, List.nil_append, putL] at E8
              have E10 := E8.drop (List.sublist_cons_self _ _)
              have H := (E10.drop (List.sublist_append_left [_, _, _, _, _, _] _)).drop (List.sublist_cons_self _ _)
              refine OPS.nil ?_
              refine ⟨(by first | exact H | exact H.drop (List.sublist_cons_self _ _) | exact H.drop ((List.sublist_cons_self _ _).trans (List.sublist_cons_self _ _)) | exact H.drop ((List.sublist_cons_self _ _).trans ((List.sublist_cons_self _ _).trans (List.sublist_cons_self _ _))) | exact H.drop ((List.sublist_cons_self _ _).trans ((List.sublist_cons_self _ _).trans ((List.sublist_cons_self _ _).trans (List.sublist_cons_self _ _)))) | exact H.drop ((List.sublist_cons_self _ _).trans ((List.sublist_cons_self _ _).trans ((List.sublist_cons_self _ _).trans ((List.sublist_cons_self _ _).trans (List.sublist_cons_self _ _)))))), ?_⟩
              refine OPH.done (by kernel_rfl) ?_
              exact ⟨(by repeat (first | exact Agree.refl _ _ | exact Agree.mix _ _ _ | refine Agree.upd rfl ?_ | refine Agree.mix2 rfl ?_)), AE, ce, Le, hOE, E10⟩
      · refine ⟨_, rfl, ?_⟩
        first
        | (refine OPS.buildSlice rfl rfl rfl rfl (bsl_22_1_0 rfl) E04 ?_
           clear H; intro g135 w E046; clear E04
           have H := ((E046.drop (List.sublist_cons_self _ _)).drop (List.sublist_append_left _ _)).drop (List.sublist_cons_self _ _))
        | (refine OPS.buildSlice rfl rfl rfl rfl (bsl_22_1_0 rfl) E0 ?_
           clear H; intro g135 w E60; clear E0
           have E06 := E60.perm (List.Perm.swap _ _ _)
           clear E60
           have H := ((E06.drop (List.sublist_cons_self _ _)).drop (List.sublist_cons_self _ _)).drop (List.sublist_cons_self _ _))
        | (refine OPS.buildSlice rfl rfl rfl rfl (bsl_22_1_0 rfl) (E.toBelow hbw18) ?_
           clear H; intro g135 w E6; clear E
           have H := (E6.drop (List.sublist_cons_self _ _)).drop (List.sublist_cons_self _ _))
        refine OPS.nil ?_
        refine ⟨(by first | exact H | exact H.drop (List.sublist_cons_self _ _) | exact H.drop ((List.sublist_cons_self _ _).trans (List.sublist_cons_self _ _)) | exact H.drop ((List.sublist_cons_self _ _).trans ((List.sublist_cons_self _ _).trans (List.sublist_cons_self _ _))) | exact H.drop ((List.sublist_cons_self _ _).trans ((List.sublist_cons_self _ _).trans ((List.sublist_cons_self _ _).trans (List.sublist_cons_self _ _)))) | exact H.drop ((List.sublist_cons_self _ _).trans ((List.sublist_cons_self _ _).trans ((List.sublist_cons_self _ _).trans ((List.sublist_cons_self _ _).trans (List.sublist_cons_self _ _)))))), ?_⟩
        refine OPH.all [4] (by kernel_rfl) (by simp) rfl ?_
        intro i hi; simp only [List.mem_cons, List.not_mem_nil, or_false] at hi
        rcases hi with rfl
        · refine ⟨_, rfl, ?_⟩
          first
          | (refine OPS.appendE (m := l.length) (news := l.flatMap edgCells) (R := [⟨g135, 62, [I ed.f, I ed.t, I ed.secs]⟩, ⟨g12, 28, [I m, .slice A l.length ca, .slice (some ⟨gt, 0, none⟩) ts.length capT, .slice C ns.length cc, I hd2]⟩, ⟨g7, 62, [I ed.f, I ed.t, I ed.secs]⟩, ⟨g6, 60, [.int .u16 ma, .int .u16 mb, .int .u16 mc]⟩, ⟨g5, 35, [I q, .slice R rn.length cr]⟩, ⟨g4, 28, [I m, .slice A l.length ca, .slice B ts.length cb, .slice C ns.length cc, I hd]⟩, ⟨gt, 52, (ts.set q t2).flatMap truckCells ++ sp⟩]) rfl rfl rfl rfl rfl (sl_run rfl) rfl rfl (OwnS.empty (g := g129)) (rows_length edgCells_len l) (rowsSrc edgCells_len (hN.sh H).l) (rows_one (fun _ => rfl) l) (by omega) (by unfold maxLen; omega) E06 (by exact perm_by fun f => by simp [I] <;> omega) ?_
             clear H; intro AE ce Le w hOE E046; clear E06
             have H := ((E046.drop (List.sublist_cons_self _ _)).drop (List.sublist_append_left _ _)).drop (List.sublist_cons_self _ _)
             rw [Nat.zero_add, List.nil_append] at hOE
             rw [show 0 + l.length = l.length from Nat.zero_add _])
          | (refine OPS.appendE (m := l.length) (news := l.flatMap edgCells) (R := [⟨g12, 28, [I m, .slice A l.length ca, .slice (some ⟨gt, 0, none⟩) ts.length capT, .slice C ns.length cc, I hd2]⟩, ⟨g7, 62, [I ed.f, I ed.t, I ed.secs]⟩, ⟨g6, 60, [.int .u16 ma, .int .u16 mb, .int .u16 mc]⟩, ⟨g5, 35, [I q, .slice R rn.length cr]⟩, ⟨g4, 28, [I m, .slice A l.length ca, .slice B ts.length cb, .slice C ns.length cc, I hd]⟩, ⟨gt, 52, (ts.set q t2).flatMap truckCells ++ sp⟩]) rfl rfl rfl rfl rfl (sl_run rfl) rfl rfl (OwnS.empty (g := g129)) (rows_length edgCells_len l) (rowsSrc edgCells_len (hN.sh H).l) (rows_one (fun _ => rfl) l) (by omega) (by unfold maxLen; omega) E0 (by exact perm_by fun f => by simp [I] <;> omega) ?_
             clear H; intro AE ce Le w hOE E04; clear E0
             have H := (E04.drop (List.sublist_append_left _ _)).drop (List.sublist_cons_self _ _)
             rw [Nat.zero_add, List.nil_append] at hOE
             rw [show 0 + l.length = l.length from Nat.zero_add _])
          refine OPS.nil ?_
          refine ⟨(by first | exact H | exact H.drop (List.sublist_cons_self _ _) | exact H.drop ((List.sublist_cons_self _ _).trans (List.sublist_cons_self _ _)) | exact H.drop ((List.sublist_cons_self _ _).trans ((List.sublist_cons_self _ _).trans (List.sublist_cons_self _ _))) | exact H.drop ((List.sublist_cons_self _ _).trans ((List.sublist_cons_self _ _).trans ((List.sublist_cons_self _ _).trans (List.sublist_cons_self _ _)))) | exact H.drop ((List.sublist_cons_self _ _).trans ((List.sublist_cons_self _ _).trans ((List.sublist_cons_self _ _).trans ((List.sublist_cons_self _ _).trans (List.sublist_cons_self _ _)))))), ?_⟩
          refine OPH.all [7] (by kernel_rfl) (by simp) rfl ?_
          intro i hi; simp only [List.mem_cons, List.not_mem_nil, or_false] at hi
          rcases hi with rfl
          · refine ⟨_, rfl, ?_⟩
            refine OPS.append (m := 1) (news := edgCells ed) (R := [⟨g135, 62, [I ed.f, I ed.t, I ed.secs]⟩, ⟨g12, 28, [I m, .slice A l.length ca, .slice (some ⟨gt, 0, none⟩) ts.length capT, .slice C ns.length cc, I hd2]⟩, ⟨g7, 62, [I ed.f, I ed.t, I ed.secs]⟩, ⟨g6, 60, [.int .u16 ma, .int .u16 mb, .int .u16 mc]⟩, ⟨g5, 35, [I q, .slice R rn.length cr]⟩, ⟨g4, 28, [I m, .slice A l.length ca, .slice B ts.length cb, .slice C ns.length cc, I hd]⟩, ⟨gt, 52, (ts.set q t2).flatMap truckCells ++ sp⟩]) rfl rfl rfl rfl rfl (sl_run rfl) rfl rfl hOE rfl (src_own E046 0 rfl) rfl (by omega) (by unfold maxLen; omega) E046 (List.Perm.refl _) ?_
            clear H hOE; intro AE ce Le w hOE E7; clear E046
            have H := ((E7.drop (List.sublist_cons_self _ _)).drop (List.sublist_append_left _ _)).drop (List.sublist_cons_self _ _)
            refine OPS.nil ?_
            refine ⟨(by first | exact H | exact H.drop (List.sublist_cons_self _ _) | exact H.drop ((List.sublist_cons_self _ _).trans (List.sublist_cons_self _ _)) | exact H.drop ((List.sublist_cons_self _ _).trans ((List.sublist_cons_self _ _).trans (List.sublist_cons_self _ _))) | exact H.drop ((List.sublist_cons_self _ _).trans ((List.sublist_cons_self _ _).trans ((List.sublist_cons_self _ _).trans (List.sublist_cons_self _ _)))) | exact H.drop ((List.sublist_cons_self _ _).trans ((List.sublist_cons_self _ _).trans ((List.sublist_cons_self _ _).trans ((List.sublist_cons_self _ _).trans (List.sublist_cons_self _ _)))))), ?_⟩
            refine OPH.take 8 rfl rfl rfl rfl (by kernel_rfl) (by kernel_rfl) (by kernel_rfl) rfl (by first | exact H | exact H.drop (List.sublist_cons_self _ _) | exact H.drop ((List.sublist_cons_self _ _).trans (List.sublist_cons_self _ _)) | exact H.drop ((List.sublist_cons_self _ _).trans ((List.sublist_cons_self _ _).trans (List.sublist_cons_self _ _))) | exact H.drop ((List.sublist_cons_self _ _).trans ((List.sublist_cons_self _ _).trans ((List.sublist_cons_self _ _).trans (List.sublist_cons_self _ _)))) | exact H.drop ((List.sublist_cons_self _ _).trans ((List.sublist_cons_self _ _).trans ((List.sublist_cons_self _ _).trans ((List.sublist_cons_self _ _).trans (List.sublist_cons_self _ _)))))) (fun w H => Ev.fieldAddr (fld_run rfl) rfl) ?_
            refine OPH.take 9 rfl rfl rfl rfl (by kernel_rfl) (by kernel_rfl) (by kernel_rfl) rfl (by first | exact H | exact H.drop (List.sublist_cons_self _ _) | exact H.drop ((List.sublist_cons_self _ _).trans (List.sublist_cons_self _ _)) | exact H.drop ((List.sublist_cons_self _ _).trans ((List.sublist_cons_self _ _).trans (List.sublist_cons_self _ _))) | exact H.drop ((List.sublist_cons_self _ _).trans ((List.sublist_cons_self _ _).trans ((List.sublist_cons_self _ _).trans (List.sublist_cons_self _ _)))) | exact H.drop ((List.sublist_cons_self _ _).trans ((List.sublist_cons_self _ _).trans ((List.sublist_cons_self _ _).trans ((List.sublist_cons_self _ _).trans (List.sublist_cons_self _ _)))))) (fun w H => Ev.fieldAddr (fld_run rfl) rfl) ?_
            refine OPH.all [10] (by kernel_rfl) (by simp) rfl ?_
            intro i hi; simp only [List.mem_cons, List.not_mem_nil, or_false] at hi
            rcases hi with rfl
            · refine ⟨_, rfl, ?_⟩
              refine OPS.store 1 _ rfl rfl rfl (size_run rfl) rfl (cS rfl) rfl rfl E7 rfl (by simp) ?_
              clear H; intro w E8; clear E7
              simp only [List.set_cons_zero, List.set_cons_succ, List.cons_append, List.nil_append, putL] at E8
              have E10 := E8.drop (List.sublist_cons_self _ _)
              have H := (E10.drop (List.sublist_append_left [_, _, _, _, _, _] _)).drop (List.sublist_cons_self _ _)
              refine OPS.nil ?_
              refine ⟨(by first | exact H | exact H.drop (List.sublist_cons_self _ _) | exact H.drop ((List.sublist_cons_self _ _).trans (List.sublist_cons_self _ _)) | exact H.drop ((List.sublist_cons_self _ _).trans ((List.sublist_cons_self _ _).trans (List.sublist_cons_self _ _))) | exact H.drop ((List.sublist_cons_self _ _).trans ((List.sublist_cons_self _ _).trans ((List.sublist_cons_self _ _).trans (List.sublist_cons_self _ _)))) | exact H.drop ((List.sublist_cons_self _ _).trans ((List.sublist_cons_self _ _).trans ((List.sublist_cons_self _ _).trans ((List.sublist_cons_self _ _).trans (List.sublist_cons_self _ _)))))), ?_⟩
              refine OPH.done (by kernel_rfl) ?_
              exact ⟨(by repeat (first | exact Agree.refl _ _ | exact Agree.mix _ _ _ | refine Agree.upd rfl ?_ | refine Agree.mix2 rfl ?_)), AE, ce, Le, hOE, E10⟩
    · refine ⟨_, rfl, ?_⟩
      first
      | (refine OPS.buildSlice rfl rfl rfl rfl (bsl_22_1_0 rfl) E04 ?_
         clear H; intro g135 w E046; clear E04
         have H := ((E046.drop (List.sublist_cons_self _ _)).drop (List.sublist_append_left _ _)).drop (List.sublist_cons_self _ _))
      | (refine OPS.buildSlice rfl rfl rfl rfl (bsl_22_1_0 rfl) E0 ?_
         clear H; intro g135 w E60; clear E0
         have E06 := E60.perm (List.Perm.swap _ _ _)
         clear E60
         have H := ((E06.drop (List.sublist_cons_self _ _)).drop (List.sublist_cons_self _ _)).drop (List.sublist_cons_self _ _))
      | (refine OPS.buildSlice rfl rfl rfl rfl (bsl_22_1_0 rfl) (E.toBelow hbw18) ?_
         clear H; intro g135 w E6; clear E
         have H := (E6.drop (List.sublist_cons_self _ _)).drop (List.sublist_cons_self _ _))
      refine OPS.nil ?_
      refine ⟨(by first | exact H | exact H.drop (List.sublist_cons_self _ _) | exact H.drop ((List.sublist_cons_self _ _).trans (List.sublist_cons_self _ _)) | exact H.drop ((List.sublist_cons_self _ _).trans ((List.sublist_cons_self _ _).trans (List.sublist_cons_self _ _))) | exact H.drop ((List.sublist_cons_self _ _).trans ((List.sublist_cons_self _ _).trans ((List.sublist_cons_self _ _).trans (List.sublist_cons_self _ _)))) | exact H.drop ((List.sublist_cons_self _ _).trans ((List.sublist_cons_self _ _).trans ((List.sublist_cons_self _ _).trans ((List.sublist_cons_self _ _).trans (List.sublist_cons_self _ _)))))), ?_⟩
      refine OPH.all [0] (by kernel_rfl) (by simp) rfl ?_
      intro i hi; simp only [List.mem_cons, List.not_mem_nil, or_false] at hi
      rcases hi with rfl
      · refine ⟨_, rfl, ?_⟩
        first
        | (refine OPS.buildSlice rfl rfl rfl rfl (bsl_22_0_ (e := fun _ => .int .i64 0)) E6 ?_
           clear H; intro g129 w E06; clear E6
           have H := ((E06.drop (List.sublist_cons_self _ _)).drop (List.sublist_cons_self _ _)).drop (List.sublist_cons_self _ _))
        | (refine OPS.buildSlice rfl rfl rfl rfl (bsl_22_0_ (e := fun _ => .int .i64 0)) (E.toBelow hbw18) ?_
           clear H; intro g129 w E0; clear E
           have H := (E0.drop (List.sublist_cons_self _ _)).drop (List.sublist_cons_self _ _))
        refine OPS.nil ?_
        refine ⟨(by first | exact H | exact H.drop (List.sublist_cons_self _ _) | exact H.drop ((List.sublist_cons_self _ _).trans (List.sublist_cons_self _ _)) | exact H.drop ((List.sublist_cons_self _ _).trans ((List.sublist_cons_self _ _).trans (List.sublist_cons_self _ _))) | exact H.drop ((List.sublist_cons_self _ _).trans ((List.sublist_cons_self _ _).trans ((List.sublist_cons_self _ _).trans (List.sublist_cons_self _ _)))) | exact H.drop ((List.sublist_cons_self _ _).trans ((List.sublist_cons_self _ _).trans ((List.sublist_cons_self _ _).trans ((List.sublist_cons_self _ _).trans (List.sublist_cons_self _ _)))))), ?_⟩
        refine OPH.all [4] (by kernel_rfl) (by simp) rfl ?_
        intro i hi; simp only [List.mem_cons, List.not_mem_nil, or_false] at hi
        rcases hi with rfl
        · refine ⟨_, rfl, ?_⟩
          first
          | (refine OPS.appendE (m := l.length) (news := l.flatMap edgCells) (R := [⟨g135, 62, [I ed.f, I ed.t, I ed.secs]⟩, ⟨g12, 28, [I m, .slice A l.length ca, .slice (some ⟨gt, 0, none⟩) ts.length capT, .slice C ns.length cc, I hd2]⟩, ⟨g7, 62, [I ed.f, I ed.t, I ed.secs]⟩, ⟨g6, 60, [.int .u16 ma, .int .u16 mb, .int .u16 mc]⟩, ⟨g5, 35, [I q, .slice R rn.length cr]⟩, ⟨g4, 28, [I m, .slice A l.length ca, .slice B ts.length cb, .slice C ns.length cc, I hd]⟩, ⟨gt, 52, (ts.set q t2).flatMap truckCells ++ sp⟩]) rfl rfl rfl rfl rfl (sl_run rfl) rfl rfl (OwnS.empty (g := g129)) (rows_length edgCells_len l) (rowsSrc edgCells_len (hN.sh H).l) (rows_one (fun _ => rfl) l) (by omega) (by unfold maxLen; omega) E06 (by exact perm_by fun f => by simp [I] <;> omega) ?_
             clear H; intro AE ce Le w hOE E046; clear E06
             have H := ((E046.drop (List.sublist_cons_self _ _)).drop (List.sublist_append_left _ _)).drop (List.sublist_cons_self _ _)
             rw [Nat.zero_add, List.nil_append] at hOE
             rw [show 0 + l.length = l.length from Nat.zero_add _])
          | (refine OPS.appendE (m := l.length) (news := l.flatMap edgCells) (R := [⟨g12, 28, [I m, .slice A l.length ca, .slice (some ⟨gt, 0, none⟩) ts.length capT, .slice C ns.length cc, I hd2]⟩, ⟨g7, 62, [I ed.f, I ed.t, I ed.secs]⟩, ⟨g6, 60, [.int .u16 ma, .int .u16 mb, .int .u16 mc]⟩, ⟨g5, 35, [I q, .slice R rn.length cr]⟩, ⟨g4, 28, [I m, .slice A l.length ca, .slice B ts.length cb, .slice C ns.length cc, I hd]⟩, ⟨gt, 52, (ts.set q t2).flatMap truckCells ++ sp⟩]) rfl rfl rfl rfl rfl (sl_run rfl) rfl rfl (OwnS.empty (g := g129)) (rows_length edgCells_len l) (rowsSrc edgCells_len (hN.sh H).l) (rows_one (fun _ => rfl) l) (by omega) (by unfold maxLen; omega) E0 (by exact perm_by fun f => by simp [I] <;> omega) ?_
             clear H; intro AE ce Le w hOE E04; clear E0
             have H := (E04.drop (List.sublist_append_left _ _)).drop (List.sublist_cons_self _ _)
             rw [Nat.zero_add, List.nil_append] at hOE
             rw [show 0 + l.length = l.length from Nat.zero_add _])
          refine OPS.nil ?_
          refine ⟨(by first | exact H | exact H.drop (List.sublist_cons_self _ _) | exact H.drop ((List.sublist_cons_self _ _).trans (List.sublist_cons_self _ _)) | exact H.drop ((List.sublist_cons_self _ _).trans ((List.sublist_cons_self _ _).trans (List.sublist_cons_self _ _))) | exact H.drop ((List.sublist_cons_self _ _).trans ((List.sublist_cons_self _ _).trans ((List.sublist_cons_self _ _).trans (List.sublist_cons_self _ _)))) | exact H.drop ((List.sublist_cons_self _ _).trans ((List.sublist_cons_self _ _).trans ((List.sublist_cons_self _ _).trans ((List.sublist_cons_self _ _).trans (List.sublist_cons_self _ _)))))), ?_⟩
          refine OPH.all [7] (by kernel_rfl) (by simp) rfl ?_
          intro i hi; simp only [List.mem_cons, List.not_mem_nil, or_false] at hi
          rcases hi with rfl
          · refine ⟨_, rfl, ?_⟩
            refine OPS.append (m := 1) (news := edgCells ed) (R := [⟨g135, 62, [I ed.f, I ed.t, I ed.secs]⟩, ⟨g12, 28, [I m, .slice A l.length ca, .slice (some ⟨gt, 0, none⟩) ts.length capT, .slice C ns.length cc, I hd2]⟩, ⟨g7, 62, [I ed.f, I ed.t, I ed.secs]⟩, ⟨g6, 60, [.int .u16 ma, .int .u16 mb, .int .u16 mc]⟩, ⟨g5, 35, [I q, .slice R rn.length cr]⟩, ⟨g4, 28, [I m, .slice A l.length ca, .slice B ts.length cb, .slice C ns.length cc, I hd]⟩, ⟨gt, 52, (ts.set q t2).flatMap truckCells ++ sp⟩]) rfl rfl rfl rfl rfl (sl_run rfl) rfl rfl hOE rfl (src_own E046 0 rfl) rfl (by omega) (by unfold maxLen; omega) E046 (List.Perm.refl _) ?_
            clear H hOE; intro AE ce Le w hOE E7; clear E046
            have H := ((E7.drop (List.sublist_cons_self _ _)).drop (List.sublist_append_left _ _)).drop (List.sublist_cons_self _ _)
            refine OPS.nil ?_
            refine ⟨(by first | exact H | exact H.drop (List.sublist_cons_self _ _) | exact H.drop ((List.sublist_cons_self _ _).trans (List.sublist_cons_self _ _)) | exact H.drop ((List.sublist_cons_self _ _).trans ((List.sublist_cons_self _ _).trans (List.sublist_cons_self _ _))) | exact H.drop ((List.sublist_cons_self _ _).trans ((List.sublist_cons_self _ _).trans ((List.sublist_cons_self _ _).trans (List.sublist_cons_self _ _)))) | exact H.drop ((List.sublist_cons_self _ _).trans ((List.sublist_cons_self _ _).trans ((List.sublist_cons_self _ _).trans ((List.sublist_cons_self _ _).trans (List.sublist_cons_self _ _)))))), ?_⟩
            refine OPH.take 8 rfl rfl rfl rfl (by kernel_rfl) (by kernel_rfl) (by kernel_rfl) rfl (by first | exact H | exact H.drop (List.sublist_cons_self _ _) | exact H.drop ((List.sublist_cons_self _ _).trans (List.sublist_cons_self _ _)) | exact H.drop ((List.sublist_cons_self _ _).trans ((List.sublist_cons_self _ _).trans (List.sublist_cons_self _ _))) | exact H.drop ((List.sublist_cons_self _ _).trans ((List.sublist_cons_self _ _).trans ((List.sublist_cons_self _ _).trans (List.sublist_cons_self _ _)))) | exact H.drop ((List.sublist_cons_self _ _).trans ((List.sublist_cons_self _ _).trans ((List.sublist_cons_self _ _).trans ((List.sublist_cons_self _ _).trans (List.sublist_cons_self _ _)))))) (fun w H => Ev.fieldAddr (fld_run rfl) rfl) ?_
            refine OPH.take 9 rfl rfl rfl rfl (by kernel_rfl) (by kernel_rfl) (by kernel_rfl) rfl (by first | exact H | exact H.drop (List.sublist_cons_self _ _) | exact H.drop ((List.sublist_cons_self _ _).trans (List.sublist_cons_self _ _)) | exact H.drop ((List.sublist_cons_self _ _).trans ((List.sublist_cons_self _ _).trans (List.sublist_cons_self _ _))) | exact H.drop ((List.sublist_cons_self _ _).trans ((List.sublist_cons_self _ _).trans ((List.sublist_cons_self _ _).trans (List.sublist_cons_self _ _)))) | exact H.drop ((List.sublist_cons_self _ _).trans ((List.sublist_cons_self _ _).trans ((List.sublist_cons_self _ _).trans ((List.sublist_cons_self _ _).trans (List.sublist_cons_self _ _)))))) (fun w H => Ev.fieldAddr (fld_run rfl) rfl) ?_
            refine OPH.all [10] (by kernel_rfl) (by simp) rfl ?_
            intro i hi; simp only [List.mem_cons, List.not_mem_nil, or_false] at hi
            rcases hi with rfl
            · refine ⟨_, rfl, ?_⟩
              refine OPS.store 1 _ rfl rfl rfl (size_run rfl) rfl (cS rfl) rfl rfl E7 rfl (by simp) ?_
              clear H; intro w E8; clear E7
              simp only [List.set_cons_zero, List.set_cons_succ, List.cons_append, List.nil_append, putL] at E8
              have E10 := E8.drop (List.sublist_cons_self _ _)
              have H := (E10.drop (List.sublist_append_left [_, _, _, _, _, _] _)).drop (List.sublist_cons_self _ _)
              refine OPS.nil ?_
              refine ⟨(by first | exact H | exact H.drop (List.sublist_cons_self _ _) | exact H.drop ((List.sublist_cons_self _ _).trans (List.sublist_cons_self _ _)) | exact H.drop ((List.sublist_cons_self _ _).trans ((List.sublist_cons_self _ _).trans (List.sublist_cons_self _ _))) | exact H.drop ((List.sublist_cons_self _ _).trans ((List.sublist_cons_self _ _).trans ((List.sublist_cons_self _ _).trans (List.sublist_cons_self _ _)))) | exact H.drop ((List.sublist_cons_self _ _).trans ((List.sublist_cons_self _ _).trans ((List.sublist_cons_self _ _).trans ((List.sublist_cons_self _ _).trans (List.sublist_cons_self _ _)))))), ?_⟩
              refine OPH.done (by kernel_rfl) ?_
              exact ⟨(by repeat (first | exact Agree.refl _ _ | exact Agree.mix _ _ _ | refine Agree.upd rfl ?_ | refine Agree.mix2 rfl ?_)), AE, ce, Le, hOE, E10⟩
  clear H
  rintro u w ⟨AE, ce, Le, hOE, H⟩
  replace hOE : OwnS AE ce (l.length + 1) ((l ++ [ed]).flatMap edgCells) 62 3 Le := by rw [List.flatMap_append, List.flatMap_cons, List.flatMap_nil, List.append_nil]; exact hOE
  have hrE := (hOE.rows (l := l ++ [ed]) edgCells_len (by decide) H).1
  refine WP.seq ?_
  refine WP.seq ?_
  refine WP.region ?_
  refine OPS.val rfl rfl rfl (Ev.fieldAddr (fld_run rfl) rfl) ?_
  refine OPS.val rfl rfl rfl ((by first | exact Ev.loadO 0 H rfl (agg_run rfl) (size_run rfl) (by first | assumption | rfl) rfl | exact Ev.loadO 1 H rfl (agg_run rfl) (size_run rfl) (by first | assumption | rfl) rfl | exact Ev.loadO 2 H rfl (agg_run rfl) (size_run rfl) (by first | assumption | rfl) rfl | exact Ev.loadO 3 H rfl (agg_run rfl) (size_run rfl) (by first | assumption | rfl) rfl | exact Ev.loadO 4 H rfl (agg_run rfl) (size_run rfl) (by first | assumption | rfl) rfl | exact Ev.loadO 5 H rfl (agg_run rfl) (size_run rfl) (by first | assumption | rfl) rfl | exact Ev.loadO 6 H rfl (agg_run rfl) (size_run rfl) (by first | assumption | rfl) rfl | (change Ev _ _ _ _ (Op.load 24 (Operand.tmp 139)) _; exact Ev.loadN [I m, .slice AE (l.length + 1) ce] (agg_run rfl) (size_run rfl) rfl ⟨H.ldL 0 rfl 0 rfl, H.ldL 0 rfl 1 rfl, trivial⟩))) ?_
  have hcheck := r8Check m AE (l ++ [ed]) ce w hrE
  rw [show (l ++ [ed]).length = l.length + 1 by simp] at hcheck
  refine OPS.call (d := some 141) rfl rfl rfl (EvC.func (fun_run rfl)) (hcheck) ?_
  rintro _ w ⟨rfl, hb⟩
  refine ⟨_, rfl, ?_⟩
  replace H := H.toBelow hb; clear hb
  refine OPS.val rfl rfl rfl (Ev.neq rfl rfl) ?_
  refine OPS.nil ?_
  refine WP.cond rfl (fun hc19 => ?_) (fun hc19 => ?_)
  · refine WP.seq ?_
    refine WP.region ?_
    refine OPS.call (d := some 143) rfl rfl rfl (EvC.func (fun_run rfl)) (lawAwake w) ?_
    rintro _ w ⟨rfl, hb⟩
    refine ⟨_, rfl, ?_⟩
    replace H := H.toBelow hb; clear hb
    refine OPS.val rfl rfl rfl (Ev.asB rfl) ?_
    refine OPS.nil ?_
    refine WP.ret ⟨_, rfl, ?_⟩
    exact ⟨rfl, H.below⟩
  have hre : roadErr m (l ++ [ed]) = 0 := by simpa using hc19
  have hok3 : RoadOk m (l ++ [ed]) := by
    obtain ⟨m3, h3, h4⟩ := roadOk_of hre
    obtain rfl : m = m3 := by omega
    exact h4
  have hE3 : Eases m q l (l ++ [ed]) (ts.set q t2) (ts.set q t2) ns hd2 hd2 t2 t2 := ⟨⟨hok3, hE2.night.tl, hE2.night.nl, hE2.night.tr, hE2.night.nd, hE2.night.hh, hE2.night.one⟩, faster_app hW.night.road hok3, rfl, hE2.ht, rfl, rfl, Int.le_refl _, Int.le_refl _, by omega⟩
  obtain ⟨w3, W3, b3⟩ := W2.eases w2 hE3
  have hcall := truckWalkP m hd2 q AE (some ⟨gt, 0, none⟩) C R (l ++ [ed]) (ts.set q t2) ns rn ce capT cc cr w ((hOE.rows (l := l ++ [ed]) edgCells_len (by decide) H).1) (rowsOwn truckCells_len H 5 rfl) (hN.sh H).n hN.c (hr.sh H) hrl hrc
  rw [hlen2, w3, show (l ++ [ed]).length = l.length + 1 by simp] at hcall
  refine WP.skip ?_
  refine WP.seq ?_
  refine WP.region ?_
  refine OPS.val rfl rfl rfl ((by first | exact Ev.loadO 0 H rfl (agg_run rfl) (size_run rfl) (by first | assumption | rfl) rfl | exact Ev.loadO 1 H rfl (agg_run rfl) (size_run rfl) (by first | assumption | rfl) rfl | exact Ev.loadO 2 H rfl (agg_run rfl) (size_run rfl) (by first | assumption | rfl) rfl | exact Ev.loadO 3 H rfl (agg_run rfl) (size_run rfl) (by first | assumption | rfl) rfl | exact Ev.loadO 4 H rfl (agg_run rfl) (size_run rfl) (by first | assumption | rfl) rfl | exact Ev.loadO 5 H rfl (agg_run rfl) (size_run rfl) (by first | assumption | rfl) rfl | exact Ev.loadO 6 H rfl (agg_run rfl) (size_run rfl) (by first | assumption | rfl) rfl | (change Ev _ _ _ _ (Op.load 28 (Operand.tmp 12)) _; fail))) ?_
  refine OPS.val rfl rfl rfl ((by first | exact Ev.loadO 0 H rfl (agg_run rfl) (size_run rfl) (by first | assumption | rfl) rfl | exact Ev.loadO 1 H rfl (agg_run rfl) (size_run rfl) (by first | assumption | rfl) rfl | exact Ev.loadO 2 H rfl (agg_run rfl) (size_run rfl) (by first | assumption | rfl) rfl | exact Ev.loadO 3 H rfl (agg_run rfl) (size_run rfl) (by first | assumption | rfl) rfl | exact Ev.loadO 4 H rfl (agg_run rfl) (size_run rfl) (by first | assumption | rfl) rfl | exact Ev.loadO 5 H rfl (agg_run rfl) (size_run rfl) (by first | assumption | rfl) rfl | exact Ev.loadO 6 H rfl (agg_run rfl) (size_run rfl) (by first | assumption | rfl) rfl | (change Ev _ _ _ _ (Op.load 35 (Operand.tmp 5)) _; fail))) ?_
  refine OPS.call (d := some 147) rfl rfl rfl (EvC.func (fun_run rfl)) (hcall) ?_
  rintro _ w ⟨V3, cv3, Lv3, rfl, hO3, Hc⟩
  refine ⟨_, rfl, ?_⟩
  replace H := H.toBelow Hc.below
  clear Hc hO3 hcall
  refine OPS.val rfl rfl rfl (Ev.mvT rfl) ?_
  refine OPS.val rfl rfl rfl (Ev.extract rfl rfl) ?_
  refine OPS.val rfl rfl rfl (Ev.extract rfl rfl) ?_
  refine OPS.val rfl rfl rfl (Ev.extract rfl rfl) ?_
  refine OPS.val rfl rfl rfl (Ev.asS rfl) ?_
  refine OPS.val rfl rfl rfl (Ev.asI rfl) ?_
  refine OPS.val rfl rfl rfl (Ev.asI rfl) ?_
  refine OPS.nil ?_
  refine WP.seq ?_
  refine WP.region ?_
  refine OPS.val rfl rfl rfl (Ev.mvI rfl) ?_
  refine OPS.val rfl rfl rfl (Ev.eql rfl rfl) ?_
  refine OPS.val rfl rfl rfl (Ev.mvB rfl) ?_
  refine OPS.gval rfl rfl rfl rfl rfl (fun hg => Ev.mvI (by first | rfl | exact gvE hg rfl)) ?_
  refine OPS.gval rfl rfl rfl rfl rfl (fun hg => Ev.mvI (by first | rfl | exact gvE hg rfl)) ?_
  refine OPS.gval rfl rfl rfl rfl rfl (fun hg => Ev.leq (by first | rfl | exact gvE hg rfl) (by first | rfl | exact gvE hg rfl)) ?_
  refine OPS.val rfl rfl rfl ((by first | exact Ev.pickOr rfl rfl rfl | exact Ev.pickAnd rfl rfl rfl)) ?_
  refine OPS.val rfl rfl rfl (Ev.mvB rfl) ?_
  refine OPS.gcall0 (f := 11) (lawAwake w) (fun _ _ h => h) rfl rfl rfl rfl rfl (fun hg => (EvC.func (fun_run rfl))) ?_
  intro w hbc; replace H := H.toBelow hbc
  refine OPS.val rfl rfl rfl ((by first | exact Ev.pickOr rfl rfl rfl | exact Ev.pickAnd rfl rfl rfl)) ?_
  refine OPS.val rfl rfl rfl (Ev.asB rfl) ?_
  refine OPS.nil ?_
  refine WP.ret ⟨_, rfl, ?_⟩
  exact ⟨ret_true rfl (by simp [b3]), H.below⟩
end Go.Proofs.Ytcgicnfjcndedaa
