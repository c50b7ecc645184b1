/-
  Walk: spread (forwards).
-/
import Derived.Test.YtfddebpeiilohaaRM1
set_option linter.all false
namespace Go.Proofs.Ytfddebpeiilohaa
open Go Go.W Go.RowKit

/-- all that spread has -/
structure SpW (l : List Edg) (n s : Nat) (K : Nat → Bool) (D : Nat → Int) (x : Nat) (Pr : Nat → Prop) (found : List Bool) (best : List Leg) (h : List Ent) (p : Int) (A : Option Addr) (cap : Nat) (Lo : List Blk) : Prop where
  inv : SpI l n s K D x Pr found best h
  own : QOwn A cap h Lo
  heap : HeapOk entLt h
  p0 : 0 ≤ p ∧ p ≤ 1000 * (1 + (n : Int) - openN found)
  hp : (h.length : Int) ≤ p
theorem cnt_arith0 {a b k x y z m : Nat} (hl3 : x ≤ y + m) (hm : m ≤ 512) (h1 : a + 2000 ≤ b) (h2 : y + 1 = z) (hk : b + z ≤ k + 1) : a + x ≤ k := by
  have h4 : x ≤ y + 512 := by omega
  have h5 : a + 512 ≤ b := by omega
  omega
theorem cnt_arith {a b k x y z m : Nat} (hl3 : x ≤ y + m) (hm : m ≤ 512) (h1 : a < b) (h2 : y + 1 = z) (hk : b * 2000 + z ≤ k + 1) : a * 2000 + x ≤ k :=
  cnt_arith0 hl3 hm (by rw [← Nat.succ_mul]; exact Nat.mul_le_mul_right _ h1) h2 hk

set_option maxHeartbeats 1000000 in
theorem roadSpread (n s : Nat) (A : Option Addr) (l : List Edg) (cap : Nat) (K : Nat → Bool) (D : Nat → Int) (w0 : World) (hok : RoadOk n l) (hs : s < n) (hR : RD l n s K D) (hz : EdgsAt w0 A l) :
    Calls Try.prog 95 #[.agg #[I n, .slice A l.length cap], I s, .func (.func 96) #[] #[]] w0 fun e w' => ∃ (gB gF : Nat) (best : List Leg) (found : List Bool), e = .returned (.tuple #[.slice (some ⟨gB, 0, none⟩) n n, .slice (some ⟨gF, 0, none⟩) n n]) ∧ best.length = n ∧ found.length = n ∧
      (∀ v, v < n → fnd found v = K v ∧ (K v = true → bst best v = D v)) ∧ SH w0 [] w' [⟨gB, 143, best.flatMap legCells⟩, ⟨gF, 4, found.map Bo⟩] := by
  have H := SH.refl w0
  have hn2 := hok.n2
  have hll := hok.len
  refine Calls.ofWP Try.func95 rfl Try.results95 Try.ntmps95 rfl ?_
  refine WP.seq ?_
  refine WP.region ?_
  refine OPS.box rfl rfl rfl rfl (cA rfl) H ?_
  clear H; intro g3 w H
  refine OPS.val rfl rfl rfl (Ev.asS rfl) ?_
  refine OPS.val rfl rfl rfl (Ev.asS rfl) ?_
  refine OPS.nil ?_
  refine WP.seq ?_
  refine WP.rheldC [8, 9, 17, 18, 19, 20, 21, 22] (fun u w' => ∃ gB gF : Nat, u 8 = .slice (some ⟨gB, 0, none⟩) n n ∧ u 9 = .slice (some ⟨gF, 0, none⟩) n n ∧ SH w0 [] w' [⟨g3, 24, [I n, .slice A l.length cap]⟩, ⟨gB, 143, mkL n (legCells default)⟩, ⟨gF, 4, mkL n [Bo false]⟩]) mixed H ?_ ?_
  · clear H; intro w hbw1 H
    refine OPH.take 0 rfl rfl rfl rfl (by kernel_rfl) (by kernel_rfl) (by kernel_rfl) rfl (by exact H) (fun w H => Ev.fieldAddr (fld_run rfl) rfl) ?_
    refine OPH.take 1 rfl rfl rfl rfl (by kernel_rfl) (by kernel_rfl) (by kernel_rfl) rfl (by exact H) (fun w H => Ev.load1 (agg_run rfl) rfl (by exact H.ldL 0 rfl _ rfl)) ?_
    refine OPH.take 3 rfl rfl rfl rfl (by kernel_rfl) (by kernel_rfl) (by kernel_rfl) rfl (by exact H) (fun w H => Ev.fieldAddr (fld_run rfl) rfl) ?_
    refine OPH.take 4 rfl rfl rfl rfl (by kernel_rfl) (by kernel_rfl) (by kernel_rfl) rfl (by exact H) (fun w H => Ev.load1 (agg_run rfl) rfl (by exact H.ldL 0 rfl _ rfl)) ?_
    refine OPH.all [2, 5] (by kernel_rfl) (by simp) rfl ?_
    intro i hi; simp only [List.mem_cons, List.not_mem_nil, or_false] at hi
    rcases hi with rfl | rfl
    · refine ⟨_, rfl, ?_⟩
      refine OPS.makeSlice rfl rfl rfl rfl (sl_run rfl) rfl rfl rfl (by omega) (by omega) H ?_
      clear H; intro g19 w H
      refine OPS.nil ?_
      refine ⟨(by exact H.drop (List.sublist_cons_self _ _)), ?_⟩
      refine OPH.take 6 rfl rfl rfl rfl (by kernel_rfl) (by kernel_rfl) (by kernel_rfl) rfl (by exact H.drop (List.sublist_cons_self _ _)) (fun w H => Ev.asS rfl) ?_
      refine OPH.all [5] (by kernel_rfl) (by simp) rfl ?_
      intro i hi; simp only [List.mem_cons, List.not_mem_nil, or_false] at hi
      rcases hi with rfl
      · refine ⟨_, rfl, ?_⟩
        refine OPS.makeSlice rfl rfl rfl rfl (sl_run rfl) rfl rfl rfl (by omega) (by omega) H ?_
        clear H; intro g22 w H
        refine OPS.nil ?_
        refine ⟨(by exact H.drop ((List.sublist_cons_self _ _).trans (List.sublist_cons_self _ _))), ?_⟩
        refine OPH.take 7 rfl rfl rfl rfl (by kernel_rfl) (by kernel_rfl) (by kernel_rfl) rfl (by exact H.drop ((List.sublist_cons_self _ _).trans (List.sublist_cons_self _ _))) (fun w H => Ev.asS rfl) ?_
        refine OPH.done (by kernel_rfl) ?_
        refine ⟨(by repeat (first | exact Agree.refl _ _ | exact Agree.mix _ _ _ | refine Agree.upd rfl ?_ | refine Agree.mix2 rfl ?_)), g19, g22, rfl, rfl, ?_⟩; exact H.reidx [2, 1, 0] (by decide) rfl
    · refine ⟨_, rfl, ?_⟩
      refine OPS.makeSlice rfl rfl rfl rfl (sl_run rfl) rfl rfl rfl (by omega) (by omega) H ?_
      clear H; intro g22 w H
      refine OPS.nil ?_
      refine ⟨(by exact H.drop (List.sublist_cons_self _ _)), ?_⟩
      refine OPH.all [2] (by kernel_rfl) (by simp) rfl ?_
      intro i hi; simp only [List.mem_cons, List.not_mem_nil, or_false] at hi
      rcases hi with rfl
      · refine ⟨_, rfl, ?_⟩
        refine OPS.makeSlice rfl rfl rfl rfl (sl_run rfl) rfl rfl rfl (by omega) (by omega) H ?_
        clear H; intro g19 w H
        refine OPS.nil ?_
        refine ⟨(by exact H.drop ((List.sublist_cons_self _ _).trans (List.sublist_cons_self _ _))), ?_⟩
        refine OPH.take 6 rfl rfl rfl rfl (by kernel_rfl) (by kernel_rfl) (by kernel_rfl) rfl (by exact H.drop ((List.sublist_cons_self _ _).trans (List.sublist_cons_self _ _))) (fun w H => Ev.asS rfl) ?_
        refine OPH.take 7 rfl rfl rfl rfl (by kernel_rfl) (by kernel_rfl) (by kernel_rfl) rfl (by exact H.drop ((List.sublist_cons_self _ _).trans (List.sublist_cons_self _ _))) (fun w H => Ev.asS rfl) ?_
        refine OPH.done (by kernel_rfl) ?_
        refine ⟨(by repeat (first | exact Agree.refl _ _ | exact Agree.mix _ _ _ | refine Agree.upd rfl ?_ | refine Agree.mix2 rfl ?_)), g19, g22, rfl, rfl, ?_⟩; exact H.reidx [2, 0, 1] (by decide) rfl
  clear H
  rintro u w ⟨gB, gF, h8, h9, H⟩
  refine WP.know (t := 8) h8 (WP.know (t := 9) h9 ?_)
  rw [mkL_rows, mkL_ones (enc1 := Bo)] at H
  refine WP.seq ?_
  refine WP.region ?_
  refine OPS.call (d := some 23) rfl rfl rfl (EvC.func (fun_run rfl)) (qNew w) ?_
  rintro _ w ⟨gq, rfl, Hc⟩
  refine ⟨_, rfl, ?_⟩
  replace H := SH.call (L1 := [_, _, _]) (Lv := []) H Hc
  clear Hc
  refine OPS.val rfl rfl rfl (Ev.asP rfl) ?_
  refine OPS.nil ?_
  refine WP.seq ?_
  refine WP.region ?_
  refine OPS.val rfl rfl rfl (Ev.mvP rfl) ?_
  refine OPS.val rfl rfl rfl (Ev.mvI rfl) ?_
  refine OPS.val rfl rfl rfl (Ev.build (bld_150_0 rfl)) ?_
  refine OPS.call (d := some 27) rfl rfl rfl (EvC.func (fun_run rfl)) (qPush gq 0 none 0 s 0 0 [] [] w (qLv gq none 0 [] 0 [] |>.map (·.g)) OwnS.nil HeapOk.nil (by simp) (by omega) (H.restart (List.sublist_append_right _ _))) ?_
  rintro _ w ⟨rfl, Aq, capq, h1, Lo, hpm, hh1, hO1, Hc⟩
  refine ⟨_, rfl, ?_⟩
  obtain rfl : h1 = [⟨s, 0, 0, 0⟩] := List.perm_singleton.1 hpm
  replace H := SH.call (Lv := qLv gq none 0 [] 0 []) H Hc
  clear Hc
  refine OPS.nil ?_
  refine WP.block ?_
  refine WP.loop [6, 7, 11, 12, 14, 15, 16, 28, 29, 30, 31, 32, 33, 34, 35, 36, 37, 38, 39, 40, 41, 42, 43, 44, 45, 46, 47, 48, 49, 50, 51, 52, 53, 54, 55, 56, 57, 58, 59, 60, 61, 62, 63, 64, 65, 66, 67, 68, 69, 70, 71, 72, 73, 74, 75, 76, 77, 78, 79, 80, 81, 82, 83, 84, 85, 86, 87, 88, 89, 90, 91] (fun k _ w' => ∃ (found : List Bool) (best : List Leg) (h : List Ent) (p : Int) (Aq : Option Addr) (capq : Nat) (Lo : List Blk) (x : Nat), SH w0 [] w' ([⟨g3, 24, [I n, .slice A l.length cap]⟩, ⟨gB, 143, best.flatMap legCells⟩, ⟨gF, 4, found.map Bo⟩] ++ qLv gq Aq capq h p Lo) ∧ SpW l n s K D x (fun _ => True) found best h p Aq capq Lo ∧ openN found * 2000 + h.length ≤ k) (n * 2000 + 1) (⟨List.replicate n false, List.replicate n default, [⟨s, 0, 0, 0⟩], 0 + 1, Aq, capq, Lo, s, H, ⟨SpI.init hR hs, hO1, hh1, by simp [openN], by simp⟩, by simp [openN]⟩) ?_
  clear H hO1 hh1
  rintro k u w ⟨found, best, h, p, Aq, capq, Lo, x, H, hW, hk⟩
  have hfl := hW.inv.flen
  have hbl := hW.inv.blen
  have hon := openN_len found
  have hp0 := hW.p0
  have hhp := hW.hp
  have hhl : h.length ≤ 1000000 := by omega
  refine WP.block ?_
  refine WP.seq ?_
  refine WP.region ?_
  refine OPS.val rfl rfl rfl (Ev.mvP rfl) ?_
  refine OPS.call (d := some 30) rfl rfl rfl (EvC.func (fun_run rfl)) (qPop2 gq capq Aq p h Lo w (qLv gq Aq capq h p Lo |>.map (·.g)) hW.own hW.heap hhl (H.restart (List.sublist_append_right _ _))) ?_
  rintro _ w ⟨y, ok, h', Lo', rfl, hno, hyes, hh', hO', Hc⟩
  refine ⟨_, rfl, ?_⟩
  replace H := SH.call (Lv := qLv gq Aq capq h p Lo) (L1 := [_, _, _]) H Hc
  clear Hc
  refine OPS.val rfl rfl rfl (Ev.mvT rfl) ?_
  refine OPS.val rfl rfl rfl (Ev.extract rfl rfl) ?_
  refine OPS.val rfl rfl rfl (Ev.extract rfl rfl) ?_
  refine OPS.alloc rfl rfl rfl rfl (zero_run rfl) rfl H ?_
  clear H; intro g11 w H
  refine OPS.store 0 _ rfl rfl rfl (size_run rfl) rfl (cA rfl) rfl rfl H rfl (by simp) ?_
  clear H; intro w H; try simp only [List.set_cons_zero, List.set_cons_succ, putL, Nat.zero_add] at H
  refine OPS.val rfl rfl rfl (Ev.asB rfl) ?_
  refine OPS.nil ?_
  refine WP.seq ?_
  refine WP.seq ?_
  refine WP.region ?_
  refine OPS.val rfl rfl rfl (Ev.mvB rfl) ?_
  refine OPS.val rfl rfl rfl (Ev.not rfl) ?_
  refine OPS.nil ?_
  refine WP.cond rfl (fun hc5 => ?_) (fun hc5 => ?_)
  · have hok2 : ok = false := by simpa using hc5
    obtain ⟨rfl, rfl⟩ := hno hok2
    refine WP.seq ?_
    refine WP.region ?_
    refine OPS.val rfl rfl rfl (Ev.mvS rfl) ?_
    refine OPS.val rfl rfl rfl (Ev.mvS rfl) ?_
    refine OPS.val rfl rfl rfl (Ev.asS rfl) ?_
    refine OPS.val rfl rfl rfl (Ev.asS rfl) ?_
    refine OPS.nil ?_
    refine WP.ret ⟨_, rfl, ?_⟩
    exact ⟨gB, gF, best, found, rfl, hbl, hfl, hW.inv.done hok hR, H.reidx [2, 3] (by decide) rfl⟩
  have hok2 : ok = true := by simpa using hc5
  obtain ⟨hpm2, hmin⟩ := hyes hok2
  obtain ⟨⟨v, hvn, hyv, hkv, hle⟩, _⟩ := hW.inv.ent y (hpm2.subset (List.mem_cons_self ..))
  have hlen2 := hpm2.length_eq
  simp only [List.length_cons] at hlen2
  obtain ⟨yn, ys, ye, yk⟩ := y
  simp only at hyv hle hmin
  subst hyv
  simp only [labCells, putL, List.set_cons_zero, List.set_cons_succ, List.cons_append, List.nil_append] at H
  have hdv : fnd found v = found[v]'(by omega) := by simp [fnd, hfl, hvn]
  refine WP.skip ?_
  refine WP.seq ?_
  refine WP.seq ?_
  refine WP.region ?_
  obtain ⟨_, _, e1, hdc⟩ := onesOwn H 3 rfl v (by omega)
  cases e1
  refine OPS.val rfl rfl rfl (Ev.mvS rfl) ?_
  refine OPS.val rfl rfl rfl (Ev.fieldAddr (fld_run rfl) rfl) ?_
  refine OPS.val rfl rfl rfl (Ev.load1 (agg_run rfl) rfl (by exact H.ldL 0 rfl _ rfl)) ?_
  refine OPS.val rfl rfl rfl ((by exact Ev.indexAddr1 (el_run rfl) (size_run rfl) rfl rfl rfl (by omega))) ?_
  refine OPS.val rfl rfl rfl (Ev.load1 (agg_run rfl) rfl (by assumption)) ?_
  refine OPS.nil ?_
  refine WP.cond rfl (fun hc7 => ?_) (fun hc7 => ?_)
  · have hnext : ∃ g', g' < k ∧ ∃ (found : List Bool) (best : List Leg) (h : List Ent) (p : Int) (Aq : Option Addr) (capq : Nat) (Lo : List Blk) (x : Nat), SH w0 [] w ([⟨g3, 24, [I n, .slice A l.length cap]⟩, ⟨gB, 143, best.flatMap legCells⟩, ⟨gF, 4, found.map Bo⟩] ++ qLv gq Aq capq h p Lo) ∧ SpW l n s K D x (fun _ => True) found best h p Aq capq Lo ∧ openN found * 2000 + h.length ≤ g' :=
      ⟨openN found * 2000 + h'.length, by omega, found, best, h', p, Aq, capq, Lo', x, H.drop (List.sublist_cons_self _ _), ⟨hW.inv.stale hpm2 rfl (by rw [hdv]; exact hc7), hO', hh', hp0, by omega⟩, Nat.le_refl _⟩
    refine WP.exit ?_
    refine XB.hit ?_
    exact ⟨(by repeat (first | exact Agree.refl _ _ | exact Agree.mix _ _ _ | refine Agree.upd rfl ?_ | refine Agree.mix2 rfl ?_)), hnext⟩
  obtain ⟨hkv2, hyd, hye, hys, hI2⟩ := hW.inv.fresh hok hR hpm2 hmin rfl hvn (by rw [hdv]; exact hc7)
  simp only at hyd hye hys hI2
  have hopen := openN_set found v (by omega) (by show fnd found v = false; rw [hdv]; exact hc7)
  have hDn := hR.nn v hvn hkv2
  have hon2 := openN_len (found.set v true)
  rw [List.length_set] at hon2
  refine WP.skip ?_
  refine WP.seq ?_
  have Hf := H
  replace H := H.reidx (L' := [⟨g11, 150, [I v, I ys, I ye]⟩, ⟨g3, 24, [I n, .slice A l.length cap]⟩]) [0, 1] (by decide) rfl
  have hpu1 : putL (best.flatMap legCells) (0 + v * 2) (legCells ⟨ys, ye⟩) = (best.set v ⟨ys, ye⟩).flatMap legCells := by rw [Nat.zero_add]; exact putL_rows legCells_len best v _ (by omega)
  have hpu2 : putL (found.map Bo) (0 + v) [Bo true] = (found.set v true).map Bo := by rw [Nat.zero_add, putL_ones]
  refine WP.rheldC [42, 43, 44, 45, 46, 47, 48, 49, 50, 51] (fun _ w' => SH w0 [] w' ([⟨g11, 150, [I v, I ys, I ye]⟩, ⟨g3, 24, [I n, .slice A l.length cap]⟩, ⟨gB, 143, (best.set v ⟨ys, ye⟩).flatMap legCells⟩, ⟨gF, 4, (found.set v true).map Bo⟩] ++ qLv gq Aq capq h' p Lo')) mixed H ?_ ?_
  · clear H; intro w hbw8 H
    refine OPH.take 0 rfl rfl rfl rfl (by kernel_rfl) (by kernel_rfl) (by kernel_rfl) rfl (by exact H) (fun w H => Ev.mvS rfl) ?_
    refine OPH.take 1 rfl rfl rfl rfl (by kernel_rfl) (by kernel_rfl) (by kernel_rfl) rfl (by exact H) (fun w H => Ev.fieldAddr (fld_run rfl) rfl) ?_
    refine OPH.take 2 rfl rfl rfl rfl (by kernel_rfl) (by kernel_rfl) (by kernel_rfl) rfl (by exact H) (fun w H => Ev.load1 (agg_run rfl) rfl (by exact H.ldL 0 rfl _ rfl)) ?_
    refine OPH.take 3 rfl rfl rfl rfl (by kernel_rfl) (by kernel_rfl) (by kernel_rfl) rfl (by exact H) (fun w H => Ev.mvS rfl) ?_
    refine OPH.take 4 rfl rfl rfl rfl (by kernel_rfl) (by kernel_rfl) (by kernel_rfl) rfl (by exact H) (fun w H => Ev.fieldAddr (fld_run rfl) rfl) ?_
    refine OPH.take 5 rfl rfl rfl rfl (by kernel_rfl) (by kernel_rfl) (by kernel_rfl) rfl (by exact H) (fun w H => Ev.load1 (agg_run rfl) rfl (by exact H.ldL 0 rfl _ rfl)) ?_
    refine OPH.take 6 rfl rfl rfl rfl (by kernel_rfl) (by kernel_rfl) (by kernel_rfl) rfl (by exact H) (fun w H => Ev.fieldAddr (fld_run rfl) rfl) ?_
    refine OPH.take 7 rfl rfl rfl rfl (by kernel_rfl) (by kernel_rfl) (by kernel_rfl) rfl (by exact H) (fun w H => (by exact Ev.loadN [_, _] (agg_run rfl) (size_run rfl) rfl ⟨H.ldL 0 rfl _ rfl, H.ldL 0 rfl _ rfl, trivial⟩)) ?_
    refine OPH.take 8 rfl rfl rfl rfl (by kernel_rfl) (by kernel_rfl) (by kernel_rfl) rfl (by exact H) (fun w H => (by exact Ev.indexAddr (el_run rfl) (size_run rfl) rfl rfl rfl (by omega))) ?_
    refine OPH.all [9] (by kernel_rfl) (by simp) rfl ?_
    intro i hi; simp only [List.mem_cons, List.not_mem_nil, or_false] at hi
    rcases hi with rfl
    · refine ⟨_, rfl, ?_⟩
      try replace Hf := Hf.toBelow hbw8
      refine OPS.store (vs := legCells ⟨ys, ye⟩) 2 _ rfl rfl rfl (size_run rfl) rfl (cA rfl) rfl rfl Hf rfl (by simp only [rows_length legCells_len]; omega) ?_
      clear H Hf; intro w Hf
      simp only [List.set_cons_zero, List.set_cons_succ] at Hf
      rw [hpu1] at Hf
      have H := Hf.reidx (L' := [⟨g11, 150, [I v, I ys, I ye]⟩, ⟨g3, 24, [I n, .slice A l.length cap]⟩]) [0, 1] (by decide) rfl
      refine OPS.nil ?_
      refine ⟨(by exact H), ?_⟩
      refine OPH.take 10 rfl rfl rfl rfl (by kernel_rfl) (by kernel_rfl) (by kernel_rfl) rfl (by exact H) (fun w H => (by exact Ev.indexAddr1 (el_run rfl) (size_run rfl) rfl rfl rfl (by omega))) ?_
      refine OPH.all [11] (by kernel_rfl) (by simp) rfl ?_
      intro i hi; simp only [List.mem_cons, List.not_mem_nil, or_false] at hi
      rcases hi with rfl
      · refine ⟨_, rfl, ?_⟩
        try replace Hf := Hf.toBelow hbw8
        refine OPS.store (vs := [Bo true]) 3 _ rfl rfl rfl (size_run rfl) rfl (cB rfl) rfl rfl Hf rfl (by simp only [List.length_map]; omega) ?_
        clear H Hf; intro w Hf
        simp only [List.set_cons_zero, List.set_cons_succ] at Hf
        rw [hpu2] at Hf
        have H := Hf.reidx (L' := [⟨g11, 150, [I v, I ys, I ye]⟩, ⟨g3, 24, [I n, .slice A l.length cap]⟩]) [0, 1] (by decide) rfl
        refine OPS.nil ?_
        refine ⟨(by exact H), ?_⟩
        refine OPH.done (by kernel_rfl) ?_
        exact ⟨(by repeat (first | exact Agree.refl _ _ | exact Agree.mix _ _ _ | refine Agree.upd rfl ?_ | refine Agree.mix2 rfl ?_)), Hf⟩
  clear H
  rintro u2 w H
  refine WP.seq ?_
  refine WP.region ?_
  refine OPS.val rfl rfl rfl (Ev.fieldAddr (fld_run rfl) rfl) ?_
  refine OPS.val rfl rfl rfl (Ev.load1 (agg_run rfl) rfl (by exact H.ldL 1 rfl _ rfl)) ?_
  refine OPS.val rfl rfl rfl (Ev.len (el_run rfl) rfl) ?_
  refine OPS.val rfl rfl rfl (Ev.mvI rfl) ?_
  refine OPS.nil ?_
  refine WP.block ?_
  refine WP.loop [14, 15, 16, 55, 56, 57, 58, 59, 60, 61, 62, 63, 64, 65, 66, 67, 68, 69, 70, 71, 72, 73, 74, 75, 76, 77, 78, 79, 80, 81, 82, 83, 84, 85, 86, 87, 88, 89, 90, 91] (fun k2 e w' => ∃ (j : Nat) (h2 : List Ent) (p2 : Int) (Aq2 : Option Addr) (capq2 : Nat) (Lo2 : List Blk), j + k2 = l.length ∧ e 55 = I j ∧ SH w0 [] w' ([⟨g11, 150, [I v, I ys, I ye]⟩, ⟨g3, 24, [I n, .slice A l.length cap]⟩, ⟨gB, 143, (best.set v ⟨ys, ye⟩).flatMap legCells⟩, ⟨gF, 4, (found.set v true).map Bo⟩] ++ qLv gq Aq2 capq2 h2 p2 Lo2) ∧ SpI l n s K D v (fun i => i < j) (found.set v true) (best.set v ⟨ys, ye⟩) h2 ∧ QOwn Aq2 capq2 h2 Lo2 ∧ HeapOk entLt h2 ∧ 0 ≤ p2 ∧ p2 ≤ p + j ∧ (h2.length : Int) ≤ p2 ∧ h2.length ≤ h'.length + j) (l.length) (⟨0, h', p, Aq, capq, Lo', by omega, rfl, H, hI2.mono fun i _ q => absurd q (by omega), hO', hh', hp0.1, by omega, by omega, by omega⟩) ?_
  clear H hO' hh' hI2
  rintro k2 u2 w ⟨j, h2, p2, Aq2, capq2, Lo2, hk2, h55, H, hI2, hO2, hh2, hp2, hp3, hhp2, hhl2⟩
  refine WP.know (t := 55) h55 ?_
  unfold qLv qCells at H
  refine WP.seq ?_
  refine WP.region ?_
  refine OPS.val rfl rfl rfl (Ev.lss rfl rfl) ?_
  refine OPS.nil ?_
  refine WP.seq ?_
  refine WP.cond rfl (fun hc10 => ?_) (fun hc10 => ?_)
  · have hlt : j < l.length := by simpa using hc10
    obtain ⟨b, o, rfl, hc⟩ := hz j hlt
    have hc' := cellsAt_sh H hc
    have hnd := hok.nodes l[j] (List.getElem_mem hlt)
    have hsc := hok.secs l[j] (List.getElem_mem hlt)
    obtain ⟨a, hfa⟩ := Int.eq_ofNat_of_zero_le hnd.1.1
    obtain ⟨b', htb⟩ := Int.eq_ofNat_of_zero_le hnd.2.1
    have ham : a < n := by omega
    have hbm : b' < n := by omega
    have hEd : EdgeAt l j a b' l[j].secs := ⟨hlt, hfa, htb, rfl⟩
    have hfl2 : (found.set v true).length = n := by simp [hfl]
    have hfb : fnd (found.set v true) b' = (found.set v true)[b']'(by omega) := by simp [fnd, hfl, hbm]
    have hfv : fnd (found.set v true) v = true := by rw [fnd_set (by omega), if_pos rfl]
    refine WP.skip ?_
    refine WP.seq ?_
    refine WP.block ?_
    refine WP.seq ?_
    refine WP.region ?_
    refine OPS.val rfl rfl rfl ((by exact Ev.indexAddr (el_run rfl) (size_run rfl) rfl rfl rfl (by omega))) ?_
    refine OPS.val rfl rfl rfl ((by (change Ev _ _ _ _ (Op.load 72 (Operand.tmp 57)) _; exact Ev.loadN (edgCells l[j]) (agg_run rfl) (size_run rfl) rfl hc'))) ?_
    refine OPS.alloc rfl rfl rfl rfl (zero_run rfl) rfl H ?_
    clear H; intro g14 w H
    refine OPS.store 0 _ rfl rfl rfl (size_run rfl) rfl (cA rfl) rfl rfl H rfl (by simp) ?_
    clear H; intro w H; try simp only [List.set_cons_zero, List.set_cons_succ, putL, Nat.zero_add] at H
    refine OPS.nil ?_
    refine WP.seq ?_
    rw [show edgCells l[j] = [I a, I b', I l[j].secs] from by unfold edgCells; rw [hfa, htb]] at H
    refine WP.region ?_
    refine OPS.val rfl rfl rfl (Ev.mvF rfl) ?_
    refine OPS.val rfl rfl rfl ((by exact Ev.loadO 0 H rfl (agg_run rfl) (size_run rfl) (by rfl) rfl)) ?_
    refine OPS.call (d := some 62) rfl rfl rfl (EvC.clos rfl (fun_run (by rfl))) (roadForward a b' l[j].secs _) ?_
    rintro _ w ⟨rfl, hb⟩
    refine ⟨_, rfl, ?_⟩
    replace H := H.toBelow hb; clear hb
    refine OPS.val rfl rfl rfl (Ev.mvT rfl) ?_
    refine OPS.val rfl rfl rfl (Ev.extract rfl rfl) ?_
    refine OPS.val rfl rfl rfl (Ev.extract rfl rfl) ?_
    refine OPS.val rfl rfl rfl (Ev.asI rfl) ?_
    refine OPS.val rfl rfl rfl (Ev.asI rfl) ?_
    refine OPS.nil ?_
    refine WP.seq ?_
    refine WP.region ?_
    obtain ⟨_, _, e1, hfc⟩ := onesOwn H 4 rfl b' (by omega)
    cases e1
    refine OPS.val rfl rfl rfl (Ev.mvI rfl) ?_
    refine OPS.val rfl rfl rfl (Ev.fieldAddr (fld_run rfl) rfl) ?_
    refine OPS.val rfl rfl rfl (Ev.load1 (agg_run rfl) rfl (by exact H.ldL 1 rfl _ rfl)) ?_
    refine OPS.val rfl rfl rfl (Ev.eql rfl rfl) ?_
    refine OPS.val rfl rfl rfl (Ev.mvB rfl) ?_
    refine OPS.gval rfl rfl rfl rfl rfl (fun hg => Ev.mvS (by rfl)) ?_
    refine OPS.gval rfl rfl rfl rfl rfl (fun hg => Ev.mvI (by rfl)) ?_
    refine OPS.gval rfl rfl rfl rfl rfl (fun hg => (by exact Ev.indexAddr1 (el_run rfl) (size_run rfl) (by exact gvE hg rfl) (by exact gvE hg rfl) rfl (by omega))) ?_
    refine OPS.gval rfl rfl rfl rfl rfl (fun hg => Ev.load1 (agg_run rfl) (by exact gvE hg rfl) (by assumption)) ?_
    refine OPS.gval rfl rfl rfl rfl rfl (fun hg => Ev.not (by exact gvE hg rfl)) ?_
    refine OPS.val rfl rfl rfl ((by exact Ev.pickAnd rfl rfl rfl)) ?_
    refine OPS.nil ?_
    refine WP.cond rfl (fun hc13 => ?_) (fun hc13 => ?_)
    · rw [Bool.and_eq_true, Bool.not_eq_true', decide_eq_true_eq] at hc13
      have hav : a = v := by omega
      subst hav
      replace H : SH w0 [] w (([⟨g14, 72, [I a, I b', I l[j].secs]⟩, ⟨g11, 150, [I a, I ys, I ye]⟩, ⟨g3, 24, [I n, .slice (some ⟨b, o, none⟩) l.length cap]⟩, ⟨gB, 143, (best.set a ⟨ys, ye⟩).flatMap legCells⟩, ⟨gF, 4, (found.set a true).map Bo⟩]) ++ qLv gq Aq2 capq2 h2 p2 Lo2) := H
      refine WP.region ?_
      refine OPS.val rfl rfl rfl (Ev.mvP rfl) ?_
      refine OPS.val rfl rfl rfl (Ev.mvI rfl) ?_
      refine OPS.val rfl rfl rfl (Ev.fieldAddr (fld_run rfl) rfl) ?_
      refine OPS.val rfl rfl rfl (Ev.fieldAddr (fld_run rfl) rfl) ?_
      refine OPS.val rfl rfl rfl (Ev.load1 (agg_run rfl) rfl (by exact H.ldL 1 rfl _ rfl)) ?_
      refine OPS.val rfl rfl rfl (Ev.fieldAddr (fld_run rfl) rfl) ?_
      refine OPS.val rfl rfl rfl (Ev.load1 (agg_run rfl) rfl (by exact H.ldL 0 rfl _ rfl)) ?_
      refine OPS.val rfl rfl rfl (Ev.add rfl rfl (by unfold fits; omega)) ?_
      refine OPS.val rfl rfl rfl (Ev.fieldAddr (fld_run rfl) rfl) ?_
      refine OPS.val rfl rfl rfl (Ev.fieldAddr (fld_run rfl) rfl) ?_
      refine OPS.val rfl rfl rfl (Ev.load1 (agg_run rfl) rfl (by exact H.ldL 1 rfl _ rfl)) ?_
      refine OPS.val rfl rfl rfl (Ev.add rfl rfl (by unfold fits; omega)) ?_
      refine OPS.val rfl rfl rfl (Ev.build (bld_143_0_1 rfl rfl)) ?_
      refine OPS.val rfl rfl rfl (Ev.build (bld_150_0_1 rfl rfl)) ?_
      refine OPS.call (d := some 90) rfl rfl rfl (EvC.func (fun_run rfl)) (qPush gq capq2 Aq2 p2 b' (ys + l[j].secs) (ye + 1) h2 Lo2 w (qLv gq Aq2 capq2 h2 p2 Lo2 |>.map (·.g)) hO2 hh2 (by omega) (by omega) (H.restart (List.sublist_append_right _ _))) ?_
      rintro _ w ⟨rfl, Aq3, capq3, h3, Lo3, hpm3, hh3, hO3, Hc⟩
      refine ⟨_, rfl, ?_⟩
      replace H := SH.call (Lv := qLv gq Aq2 capq2 h2 p2 Lo2) (L1 := [_, _, _, _, _]) H Hc
      clear Hc
      have hI3 := hI2.push hok hR hEd hvn hfv hbm hyd hye hys hpm3
      have hl3 := hpm3.length_eq
      simp only [List.length_append, List.length_cons, List.length_nil] at hl3
      have hnx : ∃ (h3 : List Ent) (p3 : Int) (Aq3 : Option Addr) (capq3 : Nat) (Lo3 : List Blk), SH w0 [] w ([⟨g11, 150, [I a, I ys, I ye]⟩, ⟨g3, 24, [I n, .slice (some ⟨b, o, none⟩) l.length cap]⟩, ⟨gB, 143, (best.set a ⟨ys, ye⟩).flatMap legCells⟩, ⟨gF, 4, (found.set a true).map Bo⟩] ++ qLv gq Aq3 capq3 h3 p3 Lo3) ∧ SpI l n s K D a (fun i => i < j + 1) (found.set a true) (best.set a ⟨ys, ye⟩) h3 ∧ QOwn Aq3 capq3 h3 Lo3 ∧ HeapOk entLt h3 ∧ 0 ≤ p3 ∧ p3 ≤ p + (j + 1) ∧ (h3.length : Int) ≤ p3 ∧ h3.length ≤ h'.length + (j + 1) :=
        ⟨h3, p2 + 1, Aq3, capq3, Lo3, H.drop (List.sublist_cons_self _ _), hI3.mono fun i _ q => by omega, hO3, hh3, by omega, by omega, by omega, by omega⟩
      refine OPS.nil ?_
      refine WP.region ?_
      refine OPS.val rfl rfl rfl (Ev.add rfl rfl (by unfold fits; omega)) ?_
      refine OPS.val rfl rfl rfl (Ev.mvI rfl) ?_
      refine OPS.nil ?_
      obtain ⟨h3, p3, Aq3, capq3, Lo3, H', hI3, hO3, hh3, q1, q2, q3, q4⟩ := hnx
      exact ⟨(by repeat (first | exact Agree.refl _ _ | exact Agree.mix _ _ _ | refine Agree.upd rfl ?_ | refine Agree.mix2 rfl ?_)), k2 - 1, by omega, j + 1, h3, p3, Aq3, capq3, Lo3, by omega, rfl, H', hI3, hO3, hh3, q1, by omega, q3, by omega⟩
    have hI3 := hI2.pass (i := j) fun b2 w2 hE2 => by
      obtain ⟨_, q1, q2, _⟩ := hE2
      have e1 : a = v := by omega
      have e2 : b2 = b' := by omega
      subst e1 e2
      rw [hfb]
      simpa using hc13
    have hnx : ∃ (h3 : List Ent) (p3 : Int) (Aq3 : Option Addr) (capq3 : Nat) (Lo3 : List Blk), SH w0 [] w ([⟨g11, 150, [I v, I ys, I ye]⟩, ⟨g3, 24, [I n, .slice (some ⟨b, o, none⟩) l.length cap]⟩, ⟨gB, 143, (best.set v ⟨ys, ye⟩).flatMap legCells⟩, ⟨gF, 4, (found.set v true).map Bo⟩] ++ qLv gq Aq3 capq3 h3 p3 Lo3) ∧ SpI l n s K D v (fun i => i < j + 1) (found.set v true) (best.set v ⟨ys, ye⟩) h3 ∧ QOwn Aq3 capq3 h3 Lo3 ∧ HeapOk entLt h3 ∧ 0 ≤ p3 ∧ p3 ≤ p + (j + 1) ∧ (h3.length : Int) ≤ p3 ∧ h3.length ≤ h'.length + (j + 1) :=
      ⟨h2, p2, Aq2, capq2, Lo2, H.drop (List.sublist_cons_self _ _), hI3.mono fun i _ q => by omega, hO2, hh2, by omega, by omega, by omega, by omega⟩
    refine WP.skip ?_
    refine WP.region ?_
    refine OPS.val rfl rfl rfl (Ev.add rfl rfl (by unfold fits; omega)) ?_
    refine OPS.val rfl rfl rfl (Ev.mvI rfl) ?_
    refine OPS.nil ?_
    obtain ⟨h3, p3, Aq3, capq3, Lo3, H', hI3, hO3, hh3, q1, q2, q3, q4⟩ := hnx
    exact ⟨(by repeat (first | exact Agree.refl _ _ | exact Agree.mix _ _ _ | refine Agree.upd rfl ?_ | refine Agree.mix2 rfl ?_)), k2 - 1, by omega, j + 1, h3, p3, Aq3, capq3, Lo3, by omega, rfl, H', hI3, hO3, hh3, q1, by omega, q3, by omega⟩
  have hjl : j = l.length := by simp at hc10; omega
  have hm2 : openN (found.set v true) * 2000 + h2.length ≤ k - 1 := by
    have hk1 : openN found * 2000 + h.length ≤ (k - 1) + 1 := by omega
    exact cnt_arith (m := l.length) (y := h'.length) (by omega) hll hopen hlen2 hk1
  have hnext : ∃ g', g' < k ∧ ∃ (found : List Bool) (best : List Leg) (h : List Ent) (p : Int) (Aq : Option Addr) (capq : Nat) (Lo : List Blk) (x : Nat), SH w0 [] w ([⟨g3, 24, [I n, .slice A l.length cap]⟩, ⟨gB, 143, best.flatMap legCells⟩, ⟨gF, 4, found.map Bo⟩] ++ qLv gq Aq capq h p Lo) ∧ SpW l n s K D x (fun _ => True) found best h p Aq capq Lo ∧ openN found * 2000 + h.length ≤ g' :=
    ⟨k - 1, by omega, found.set v true, best.set v ⟨ys, ye⟩, h2, p2, Aq2, capq2, Lo2, v, H.drop (List.sublist_cons_self _ _), ⟨hI2.mono fun i hi _ => by omega, hO2, hh2, ⟨hp2, by omega⟩, hhp2⟩, hm2⟩
  refine WP.exit ?_
  refine XB.hit ?_
  exact ⟨(by repeat (first | exact Agree.refl _ _ | exact Agree.mix _ _ _ | refine Agree.upd rfl ?_ | refine Agree.mix2 rfl ?_)), hnext⟩
end Go.Proofs.Ytfddebpeiilohaa

/-
  Walks: times, Times.
-/
set_option linter.all false
namespace Go.Proofs.Ytfddebpeiilohaa
open Go Go.W Go.RowKit

open Classical in
/-- the least time from s to v, or -1 -/
noncomputable def roadT (n : Nat) (l : List Edg) (s v : Nat) : Int :=
  if h : ∃ KD : (Nat → Bool) × (Nat → Int), RD l n s KD.1 KD.2 then (if h.choose.1 v = true then h.choose.2 v else -1) else -1
theorem roadT_eq {n s : Nat} {l : List Edg} (hok : RoadOk n l) {K : Nat → Bool} {D : Nat → Int} (hR : RD l n s K D) {v : Nat} (hv : v < n) : roadT n l s v = if K v = true then D v else -1 := by
  have hex : ∃ KD : (Nat → Bool) × (Nat → Int), RD l n s KD.1 KD.2 := ⟨(K, D), hR⟩
  have hu := RD.unique hok hex.choose_spec hR v hv
  unfold roadT
  rw [dif_pos hex]
  cases hk : K v with
  | true =>
    rw [hk] at hu
    rw [if_pos hu.1, if_pos rfl]
    exact hu.2 hu.1
  | false =>
    rw [hk] at hu
    rw [if_neg (by rw [hu.1]; simp), if_neg (by simp)]
noncomputable def timesL (n : Nat) (l : List Edg) (s : Nat) : List Int := (List.range n).map (roadT n l s)
theorem timesL_length (n : Nat) (l : List Edg) (s : Nat) : (timesL n l s).length = n := by simp [timesL]
theorem timesL_at {n : Nat} {l : List Edg} {s v : Nat} (h : v < (timesL n l s).length) : (timesL n l s)[v] = roadT n l s v := by simp [timesL]
def timesErr (n : Int) (l : List Edg) (k : Int) : Int := if roadErr n l ≠ 0 then roadErr n l else if isNode n k = true then 0 else 7
noncomputable def timesOf (n : Int) (l : List Edg) (k : Int) : List Int := if timesErr n l k = 0 then timesL n.toNat l k.toNat else []
theorem timesErr_ok {n : Int} {l : List Edg} {k : Int} (h : timesErr n l k = 0) : ∃ m s : Nat, n = m ∧ k = s ∧ s < m ∧ RoadOk m l := by
  unfold timesErr at h
  split at h
  · rename_i h1; exact absurd h h1
  · rename_i h1
    split at h
    · rename_i h2
      obtain ⟨m, rfl, hok⟩ := roadOk_of (by simpa using h1)
      simp [isNode] at h2
      obtain ⟨s, rfl⟩ := Int.eq_ofNat_of_zero_le h2.1
      exact ⟨m, s, rfl, rfl, by omega, hok⟩
    · cases h

set_option maxHeartbeats 400000 in
theorem roadTimes0 (n s : Nat) (A : Option Addr) (l : List Edg) (cap : Nat) (w0 : World) (hok : RoadOk n l) (hs : s < n) (hz : EdgsAt w0 A l) :
    Calls Try.prog 89 #[.agg #[I n, .slice A l.length cap], I s] w0 fun e w' => ∃ g : Nat, e = .returned (.slice (some ⟨g, 0, none⟩) n n) ∧ SH w0 [] w' [⟨g, 3, (timesL n l s).map I⟩] := by
  have H := SH.refl w0
  have hn2 := hok.n2
  obtain ⟨K, D, hR⟩ := rd_exists hok hs
  refine Calls.ofWP Try.func89 rfl Try.results89 Try.ntmps89 rfl ?_
  refine WP.seq ?_
  refine WP.region ?_
  refine OPS.box rfl rfl rfl rfl (cA rfl) H ?_
  clear H; intro g2 w H
  refine OPS.val rfl rfl rfl (Ev.asS rfl) ?_
  refine OPS.nil ?_
  refine WP.seq ?_
  refine WP.region ?_
  refine OPS.val rfl rfl rfl ((by exact Ev.loadO 0 H rfl (agg_run rfl) (size_run rfl) (by rfl) rfl)) ?_
  refine OPS.val rfl rfl rfl (Ev.mvI rfl) ?_
  refine OPS.call (d := some 12) rfl rfl rfl (EvC.func (fun_run rfl)) (roadSpread n s A l cap K D w hok hs hR (hz.sh H)) ?_
  rintro _ w ⟨gB, gF, best, found, rfl, hbl, hfl, hbf, Hc⟩
  refine ⟨_, rfl, ?_⟩
  replace H := SH.call (L1 := [_]) (Lv := []) H Hc
  clear Hc
  refine OPS.val rfl rfl rfl (Ev.mvT rfl) ?_
  refine OPS.val rfl rfl rfl (Ev.extract rfl rfl) ?_
  refine OPS.val rfl rfl rfl (Ev.extract rfl rfl) ?_
  refine OPS.val rfl rfl rfl (Ev.asS rfl) ?_
  refine OPS.val rfl rfl rfl (Ev.asS rfl) ?_
  refine OPS.nil ?_
  refine WP.seq ?_
  refine WP.region ?_
  refine OPS.val rfl rfl rfl (Ev.fieldAddr (fld_run rfl) rfl) ?_
  refine OPS.val rfl rfl rfl (Ev.load1 (agg_run rfl) rfl (by exact H.ldL 0 rfl _ rfl)) ?_
  refine OPS.makeSlice rfl rfl rfl rfl (sl_run rfl) rfl rfl rfl (by omega) (by omega) H ?_
  clear H; intro g17 w H
  refine OPS.val rfl rfl rfl (Ev.asS rfl) ?_
  refine OPS.nil ?_
  replace H := H.reidx (L' := [⟨g17, 3, (List.replicate n 0).map I⟩, ⟨gB, 143, best.flatMap legCells⟩, ⟨gF, 4, found.map Bo⟩]) [0, 2, 3] (by decide) (by rw [← mkL_ones]; rfl)
  have hml : (timesL n l s).length = (List.replicate n (0 : Int)).length := by simp [timesL]
  have htl := timesL_length n l s
  refine WP.seq ?_
  refine WP.seq ?_
  refine WP.region ?_
  refine OPS.val rfl rfl rfl (Ev.mvS rfl) ?_
  refine OPS.val rfl rfl rfl (Ev.len (el_run rfl) rfl) ?_
  refine OPS.val rfl rfl rfl (Ev.mvI rfl) ?_
  refine OPS.nil ?_
  refine WP.block ?_
  refine WP.loop [8, 20, 21, 22, 23, 24, 25, 26, 27, 28, 29, 30, 31, 32, 33, 34, 35, 36, 37, 38] (fun k e w' => ∃ q : Nat, q + k = n ∧ e 20 = I q ∧ SH w0 [] w' [⟨g17, 3, (mixL (timesL n l s) (List.replicate n 0) q).map I⟩, ⟨gB, 143, best.flatMap legCells⟩, ⟨gF, 4, found.map Bo⟩]) (n) (⟨0, by omega, rfl, by rw [mixL_zero]; exact H⟩) ?_
  clear H
  rintro k u w ⟨q, hq, h20, H⟩
  refine WP.know (t := 20) h20 ?_
  refine WP.seq ?_
  refine WP.region ?_
  refine OPS.val rfl rfl rfl (Ev.lss rfl rfl) ?_
  refine OPS.nil ?_
  refine WP.seq ?_
  refine WP.cond rfl (fun hc4 => ?_) (fun hc4 => ?_)
  · have hqn : q < n := by simpa using hc4
    have hmx : (mixL (timesL n l s) (List.replicate n 0) q).length = n := by rw [mixL_length hml (by omega)]; exact htl
    have hms := mixL_set (m := List.replicate n (0 : Int)) hml (show q < (timesL n l s).length by omega)
    rw [timesL_at] at hms
    have hT := roadT_eq hok hR hqn
    obtain ⟨hf1, hf2⟩ := hbf q hqn
    have hfq : fnd found q = found[q]'(by omega) := by simp [fnd, hfl, hqn]
    have hbq : bst best q = (best[q]'(by omega)).secs := by simp [bst, hbl, hqn]
    refine WP.skip ?_
    refine WP.seq ?_
    refine WP.block ?_
    refine WP.seq ?_
    refine WP.region ?_
    refine OPS.val rfl rfl rfl (Ev.mvI rfl) ?_
    refine OPS.val rfl rfl rfl (Ev.asI rfl) ?_
    refine OPS.nil ?_
    refine WP.seq ?_
    refine WP.region ?_
    refine OPS.val rfl rfl rfl (Ev.mvS rfl) ?_
    refine OPS.val rfl rfl rfl (Ev.mvI rfl) ?_
    refine OPS.val rfl rfl rfl ((by exact Ev.indexAddr1 (el_run rfl) (size_run rfl) rfl rfl rfl (by omega))) ?_
    have hpu : putL ((mixL (timesL n l s) (List.replicate n 0) q).map I) (0 + q) [I (-1)] = ((mixL (timesL n l s) (List.replicate n 0) q).set q (-1)).map I := by rw [Nat.zero_add, putL_ones]
    refine OPS.store (vs := [I (-1)]) 0 _ rfl rfl rfl (size_run rfl) rfl (cI rfl) rfl rfl H rfl (by simp only [List.length_map, hmx]; omega) ?_
    clear H; intro w H
    simp only [List.set_cons_zero, List.set_cons_succ] at H
    rw [hpu] at H
    refine OPS.nil ?_
    refine WP.seq ?_
    refine WP.region ?_
    obtain ⟨_, _, e1, hfc⟩ := onesOwn H 2 rfl q (by omega)
    cases e1
    refine OPS.val rfl rfl rfl (Ev.mvS rfl) ?_
    refine OPS.val rfl rfl rfl (Ev.mvI rfl) ?_
    refine OPS.val rfl rfl rfl ((by exact Ev.indexAddr1 (el_run rfl) (size_run rfl) rfl rfl rfl (by omega))) ?_
    refine OPS.val rfl rfl rfl (Ev.load1 (agg_run rfl) rfl (by assumption)) ?_
    refine OPS.nil ?_
    refine WP.cond rfl (fun hc7 => ?_) (fun hc7 => ?_)
    · have hkq : K q = true := by rw [← hf1, hfq]; exact hc7
      have hTq : roadT n l s q = (best[q]'(by omega)).secs := by rw [hT, if_pos hkq, ← hf2 hkq, hbq]
      refine WP.region ?_
      obtain ⟨_, _, e1, b0, b1, _⟩ := rowsOwn' legCells_len H 1 rfl q (by omega)
      cases e1
      refine OPS.val rfl rfl rfl (Ev.mvS rfl) ?_
      refine OPS.val rfl rfl rfl (Ev.mvI rfl) ?_
      refine OPS.val rfl rfl rfl (Ev.mvS rfl) ?_
      refine OPS.val rfl rfl rfl (Ev.mvI rfl) ?_
      refine OPS.val rfl rfl rfl ((by exact Ev.indexAddr (el_run rfl) (size_run rfl) rfl rfl rfl (by omega))) ?_
      refine OPS.val rfl rfl rfl (Ev.fieldAddr (fld_run rfl) rfl) ?_
      refine OPS.val rfl rfl rfl (Ev.load1 (agg_run rfl) rfl (by assumption)) ?_
      refine OPS.val rfl rfl rfl ((by exact Ev.indexAddr1 (el_run rfl) (size_run rfl) rfl rfl rfl (by omega))) ?_
      have hpu : putL (((mixL (timesL n l s) (List.replicate n 0) q).set q (-1)).map I) (0 + q) [I (best[q]'(by omega)).secs] = (mixL (timesL n l s) (List.replicate n 0) (q + 1)).map I := by rw [Nat.zero_add, putL_ones, List.set_set, ← hTq, hms]
      refine OPS.store (vs := [I (best[q]'(by omega)).secs]) 0 _ rfl rfl rfl (size_run rfl) rfl (cI rfl) rfl rfl H rfl (by simp only [List.length_map, List.length_set, hmx]; omega) ?_
      clear H; intro w H
      simp only [List.set_cons_zero, List.set_cons_succ] at H
      rw [hpu] at H
      refine OPS.nil ?_
      refine WP.region ?_
      refine OPS.val rfl rfl rfl (Ev.add rfl rfl (by unfold fits; omega)) ?_
      refine OPS.val rfl rfl rfl (Ev.mvI rfl) ?_
      refine OPS.nil ?_
      exact ⟨(by repeat (first | exact Agree.refl _ _ | exact Agree.mix _ _ _ | refine Agree.upd rfl ?_ | refine Agree.mix2 rfl ?_)), k - 1, by omega, q + 1, by omega, rfl, H⟩
    have hkq : K q = false := by rw [← hf1, hfq]; exact hc7
    have hTq : roadT n l s q = -1 := by rw [hT, if_neg (by rw [hkq]; simp)]
    rw [← hTq, hms] at H
    refine WP.skip ?_
    refine WP.region ?_
    refine OPS.val rfl rfl rfl (Ev.add rfl rfl (by unfold fits; omega)) ?_
    refine OPS.val rfl rfl rfl (Ev.mvI rfl) ?_
    refine OPS.nil ?_
    exact ⟨(by repeat (first | exact Agree.refl _ _ | exact Agree.mix _ _ _ | refine Agree.upd rfl ?_ | refine Agree.mix2 rfl ?_)), k - 1, by omega, q + 1, by omega, rfl, H⟩
  refine WP.exit ?_
  refine XB.hit ?_
  refine WP.seq ?_
  refine WP.region ?_
  refine OPS.val rfl rfl rfl (Ev.mvS rfl) ?_
  refine OPS.val rfl rfl rfl (Ev.asS rfl) ?_
  refine OPS.nil ?_
  refine WP.ret ⟨_, rfl, ?_⟩
  have hqn : q = n := by simp at hc4; omega
  have hma : mixL (timesL n l s) (List.replicate n 0) n = timesL n l s := by
    have h := mixL_all hml
    rw [htl] at h; exact h
  rw [hqn, hma] at H
  exact ⟨g17, rfl, H.reidx [0] (by decide) rfl⟩

theorem roadTimes (n k : Int) (A : Option Addr) (l : List Edg) (cap : Nat) (w0 : World) (hz : EdgsAt w0 A l) :
    Calls Try.prog 77 #[.agg #[I n, .slice A l.length cap], I k] w0 fun e w' => ∃ (C : Option Addr) (Lc : List Blk), e = .returned (.tuple #[.slice C (timesOf n l k).length (timesOf n l k).length, I (timesErr n l k)]) ∧ OwnL 3 I C (timesOf n l k) Lc ∧ SH w0 [] w' Lc := by
  have H := SH.refl w0
  refine Calls.ofWP Try.func77 rfl Try.results77 Try.ntmps77 rfl ?_
  refine WP.seq ?_
  refine WP.region ?_
  refine OPS.box rfl rfl rfl rfl (cA rfl) H ?_
  clear H; intro g2 w H
  refine OPS.val rfl rfl rfl (Ev.asS rfl) ?_
  refine OPS.val rfl rfl rfl (Ev.asI rfl) ?_
  refine OPS.nil ?_
  refine WP.seq ?_
  refine WP.seq ?_
  refine WP.region ?_
  refine OPS.val rfl rfl rfl ((by exact Ev.loadO 0 H rfl (agg_run rfl) (size_run rfl) (by rfl) rfl)) ?_
  refine OPS.call (d := some 8) rfl rfl rfl (EvC.func (fun_run rfl)) (roadCheck n A l cap w (hz.sh H)) ?_
  rintro _ w ⟨rfl, hb⟩
  refine ⟨_, rfl, ?_⟩
  replace H := H.toBelow hb; clear hb
  refine OPS.val rfl rfl rfl (Ev.asI rfl) ?_
  refine OPS.nil ?_
  refine WP.seq ?_
  refine WP.region ?_
  refine OPS.val rfl rfl rfl (Ev.mvI rfl) ?_
  refine OPS.val rfl rfl rfl (Ev.neq rfl rfl) ?_
  refine OPS.nil ?_
  refine WP.cond rfl (fun hc2 => ?_) (fun hc2 => ?_)
  · refine WP.seq ?_
    refine WP.region ?_
    refine OPS.val rfl rfl rfl (Ev.mvI rfl) ?_
    refine OPS.val rfl rfl rfl (Ev.asS rfl) ?_
    refine OPS.val rfl rfl rfl (Ev.asI rfl) ?_
    refine OPS.nil ?_
    refine WP.ret ⟨_, rfl, ?_⟩
    have h : roadErr n l ≠ 0 := by simpa using hc2
    have he : timesErr n l k = roadErr n l := by rw [timesErr, if_pos h]
    have ht : timesOf n l k = [] := by rw [timesOf, if_neg (by rw [he]; exact h)]
    exact ⟨none, [], by rw [ht, he]; rfl, by rw [ht]; exact OwnL.nil, H.reidx [] (by decide) rfl⟩
  have h0 : roadErr n l = 0 := by simpa using hc2
  refine WP.skip ?_
  refine WP.seq ?_
  refine WP.seq ?_
  refine WP.region ?_
  refine OPS.val rfl rfl rfl ((by exact Ev.loadO 0 H rfl (agg_run rfl) (size_run rfl) (by rfl) rfl)) ?_
  refine OPS.val rfl rfl rfl (Ev.mvI rfl) ?_
  refine OPS.call (d := some 14) rfl rfl rfl (EvC.func (fun_run rfl)) (roadNode n k _ _ _ _) ?_
  rintro _ w ⟨rfl, hb⟩
  refine ⟨_, rfl, ?_⟩
  replace H := H.toBelow hb; clear hb
  refine OPS.val rfl rfl rfl (Ev.not rfl) ?_
  refine OPS.nil ?_
  refine WP.cond rfl (fun hc4 => ?_) (fun hc4 => ?_)
  · refine WP.seq ?_
    refine WP.region ?_
    refine OPS.val rfl rfl rfl (Ev.asS rfl) ?_
    refine OPS.val rfl rfl rfl (Ev.asI rfl) ?_
    refine OPS.nil ?_
    refine WP.ret ⟨_, rfl, ?_⟩
    have hnn : isNode n k = false := by simpa using hc4
    have he : timesErr n l k = 7 := by rw [timesErr, if_neg (by simp [h0]), if_neg (by simp [hnn])]
    have ht : timesOf n l k = [] := by rw [timesOf, if_neg (by rw [he]; decide)]
    exact ⟨none, [], by rw [ht, he]; rfl, by rw [ht]; exact OwnL.nil, H.reidx [] (by decide) rfl⟩
  have hnn : isNode n k = true := by simpa using hc4
  have he : timesErr n l k = 0 := by rw [timesErr, if_neg (by simp [h0]), if_pos hnn]
  obtain ⟨m, s, rfl, rfl, hsm, hok⟩ := timesErr_ok he
  have ht : timesOf m l s = timesL m l s := by rw [timesOf, if_pos he]; simp
  refine WP.skip ?_
  refine WP.seq ?_
  refine WP.region ?_
  refine OPS.val rfl rfl rfl ((by exact Ev.loadO 0 H rfl (agg_run rfl) (size_run rfl) (by rfl) rfl)) ?_
  refine OPS.val rfl rfl rfl (Ev.mvI rfl) ?_
  refine OPS.call (d := some 18) rfl rfl rfl (EvC.func (fun_run rfl)) (roadTimes0 m s A l cap w hok hsm (hz.sh H)) ?_
  rintro _ w ⟨g, rfl, Hc⟩
  refine ⟨_, rfl, ?_⟩
  replace H := SH.call (L1 := [_]) (Lv := []) H Hc
  clear Hc
  refine OPS.val rfl rfl rfl (Ev.asS rfl) ?_
  refine OPS.val rfl rfl rfl (Ev.asI rfl) ?_
  refine OPS.nil ?_
  refine WP.ret ⟨_, rfl, ?_⟩
  exact ⟨some ⟨g, 0, none⟩, _, by rw [he, ht, timesL_length]; rfl, by rw [ht]; exact OwnL.mk g _, H.reidx [1] (by decide) rfl⟩
end Go.Proofs.Ytfddebpeiilohaa

/-
  Walks: the reference's Node, Check, to.
-/
set_option linter.all false
namespace Go.Proofs.Ytfddebpeiilohaa
open Go Go.W Go.RowKit

theorem r8Node (n k : Int) (A : Option Addr) (m cap : Nat) (w0 : World) :
    Calls Try.prog 65 #[.agg #[I n, .slice A m cap], I k] w0 fun e w' => e = .returned (.bool (isNode n k)) ∧ Below w0.heap.size w0 w' := by
  have H := SH.refl w0
  refine Calls.ofWP Try.func65 rfl Try.results65 Try.ntmps65 rfl ?_
  refine WP.seq ?_
  refine WP.region ?_
  refine OPS.box rfl rfl rfl rfl (cA rfl) H ?_
  clear H; intro g2 w H
  refine OPS.val rfl rfl rfl (Ev.asB rfl) ?_
  refine OPS.nil ?_
  refine WP.seq ?_
  refine WP.region ?_
  refine OPS.val rfl rfl rfl (Ev.mvI rfl) ?_
  refine OPS.val rfl rfl rfl (Ev.geq rfl rfl) ?_
  refine OPS.val rfl rfl rfl (Ev.mvB rfl) ?_
  refine OPS.gval rfl rfl rfl rfl rfl (fun hg => Ev.mvI (by rfl)) ?_
  refine OPS.gval rfl rfl rfl rfl rfl (fun hg => Ev.fieldAddr (fld_run rfl) (by rfl)) ?_
  refine OPS.gval rfl rfl rfl rfl rfl (fun hg => Ev.load1 (agg_run rfl) (by exact gvE hg rfl) (by exact H.ldL 0 rfl _ rfl)) ?_
  refine OPS.gval rfl rfl rfl rfl rfl (fun hg => Ev.lss (by exact gvE hg rfl) (by exact gvE hg rfl)) ?_
  refine OPS.val rfl rfl rfl ((by exact Ev.pickAnd rfl rfl rfl)) ?_
  refine OPS.val rfl rfl rfl (Ev.asB rfl) ?_
  refine OPS.nil ?_
  refine WP.ret ⟨_, rfl, ?_⟩
  exact ⟨rfl, H.below⟩

set_option maxHeartbeats 400000 in
theorem r8Check (n : Int) (A : Option Addr) (l : List Edg) (cap : Nat) (w0 : World) (hz : EdgsAt w0 A l) :
    Calls Try.prog 53 #[.agg #[I n, .slice A l.length cap]] w0 fun e w' => e = .returned (I (roadErr n l)) ∧ Below w0.heap.size w0 w' := by
  have H := SH.refl w0
  refine Calls.ofWP Try.func53 rfl Try.results53 Try.ntmps53 rfl ?_
  refine WP.seq ?_
  refine WP.region ?_
  refine OPS.box rfl rfl rfl rfl (cA rfl) H ?_
  clear H; intro g1 w H
  refine OPS.val rfl rfl rfl (Ev.asI rfl) ?_
  refine OPS.nil ?_
  refine WP.seq ?_
  refine WP.seq ?_
  refine WP.region ?_
  refine OPS.val rfl rfl rfl (Ev.fieldAddr (fld_run rfl) rfl) ?_
  refine OPS.val rfl rfl rfl (Ev.load1 (agg_run rfl) rfl (by exact H.ldL 0 rfl _ rfl)) ?_
  refine OPS.val rfl rfl rfl (Ev.lss rfl rfl) ?_
  refine OPS.val rfl rfl rfl (Ev.mvB rfl) ?_
  refine OPS.gval rfl rfl rfl rfl rfl (fun hg => Ev.fieldAddr (fld_run rfl) (by rfl)) ?_
  refine OPS.gval rfl rfl rfl rfl rfl (fun hg => Ev.load1 (agg_run rfl) (by exact gvE hg rfl) (by exact H.ldL 0 rfl _ rfl)) ?_
  refine OPS.gval rfl rfl rfl rfl rfl (fun hg => Ev.gtr (by exact gvE hg rfl) (by rfl)) ?_
  refine OPS.val rfl rfl rfl ((by exact Ev.pickOr rfl rfl rfl)) ?_
  refine OPS.nil ?_
  refine WP.cond rfl (fun hc1 => ?_) (fun hc1 => ?_)
  · refine WP.seq ?_
    refine WP.region ?_
    refine OPS.val rfl rfl rfl (Ev.asI rfl) ?_
    refine OPS.nil ?_
    refine WP.ret ⟨_, rfl, ?_⟩
    exact ⟨by rw [roadErr, if_pos hc1]; rfl, H.below⟩
  refine WP.skip ?_
  refine WP.seq ?_
  refine WP.seq ?_
  refine WP.region ?_
  refine OPS.val rfl rfl rfl (Ev.fieldAddr (fld_run rfl) rfl) ?_
  refine OPS.val rfl rfl rfl (Ev.load1 (agg_run rfl) rfl (by exact H.ldL 0 rfl _ rfl)) ?_
  refine OPS.val rfl rfl rfl (Ev.len (el_run rfl) rfl) ?_
  refine OPS.val rfl rfl rfl (Ev.gtr rfl rfl) ?_
  refine OPS.nil ?_
  refine WP.cond rfl (fun hc3 => ?_) (fun hc3 => ?_)
  · refine WP.seq ?_
    refine WP.region ?_
    refine OPS.val rfl rfl rfl (Ev.asI rfl) ?_
    refine OPS.nil ?_
    refine WP.ret ⟨_, rfl, ?_⟩
    exact ⟨by rw [roadErr, if_neg (by simp [hc1]), if_pos (by simpa using hc3)]; rfl, H.below⟩
  have hl : l.length ≤ 512 := by simp at hc3; omega
  have e0 : roadErr n l = edgsErr n l := by rw [roadErr, if_neg (by simp [hc1]), if_neg (by simpa using hc3)]
  refine WP.skip ?_
  refine WP.seq ?_
  refine WP.seq ?_
  refine WP.region ?_
  refine OPS.val rfl rfl rfl (Ev.asI rfl) ?_
  refine OPS.nil ?_
  refine WP.block ?_
  refine WP.loop [2, 3, 4, 17, 18, 19, 20, 21, 22, 23, 24, 25, 26, 27, 28, 29, 30, 31, 32, 33, 34, 35, 36, 37, 38, 39, 40, 41, 42, 43, 44, 45, 46, 47, 48] (fun k e w' => ∃ j : Nat, j + k = l.length ∧ e 3 = .int .i64 j ∧ SH w0 [] w' [⟨g1, 24, [I n, .slice A l.length cap]⟩] ∧ ∀ i (hi : i < l.length), i < j → edgBad n l[i] = false ∧ edgRange l[i] = false) (l.length) (⟨0, by omega, rfl, H, fun i _ hi => absurd hi (by omega)⟩) ?_
  clear H
  rintro k u w ⟨j, hk, h3', H, hall⟩
  refine WP.know (t := 3) h3' ?_
  refine WP.seq ?_
  refine WP.seq ?_
  refine WP.region ?_
  refine OPS.val rfl rfl rfl (Ev.mvI rfl) ?_
  refine OPS.val rfl rfl rfl (Ev.fieldAddr (fld_run rfl) rfl) ?_
  refine OPS.val rfl rfl rfl (Ev.load1 (agg_run rfl) rfl (by exact H.ldL 0 rfl _ rfl)) ?_
  refine OPS.val rfl rfl rfl (Ev.len (el_run rfl) rfl) ?_
  refine OPS.val rfl rfl rfl (Ev.lss rfl rfl) ?_
  refine OPS.nil ?_
  refine WP.cond rfl (fun hc6 => ?_) (fun hc6 => ?_)
  · have hlt : j < l.length := by simpa using hc6
    obtain ⟨b, o, rfl, hc⟩ := hz j hlt
    have hc' := cellsAt_sh H hc
    refine WP.skip ?_
    refine WP.seq ?_
    refine WP.block ?_
    refine WP.seq ?_
    refine WP.region ?_
    refine OPS.val rfl rfl rfl (Ev.fieldAddr (fld_run rfl) rfl) ?_
    refine OPS.val rfl rfl rfl (Ev.load1 (agg_run rfl) rfl (by exact H.ldL 0 rfl _ rfl)) ?_
    refine OPS.val rfl rfl rfl (Ev.mvI rfl) ?_
    refine OPS.val rfl rfl rfl ((by exact Ev.indexAddr (el_run rfl) (size_run rfl) rfl rfl rfl (by omega))) ?_
    refine OPS.val rfl rfl rfl ((by (change Ev _ _ _ _ (Op.load 72 (Operand.tmp 27)) _; exact Ev.loadN (edgCells l[j]) (agg_run rfl) (size_run rfl) rfl hc'))) ?_
    refine OPS.alloc rfl rfl rfl rfl (zero_run rfl) rfl H ?_
    clear H; intro g4 w H
    refine OPS.store 0 _ rfl rfl rfl (size_run rfl) rfl (cA rfl) rfl rfl H rfl (by simp) ?_
    clear H; intro w H; try simp only [List.set_cons_zero, List.set_cons_succ, putL, Nat.zero_add] at H
    refine OPS.nil ?_
    refine WP.seq ?_
    refine WP.seq ?_
    refine WP.region ?_
    refine OPS.val rfl rfl rfl ((by exact Ev.loadO 1 H rfl (agg_run rfl) (size_run rfl) (by rfl) rfl)) ?_
    refine OPS.val rfl rfl rfl (Ev.fieldAddr (fld_run rfl) rfl) ?_
    refine OPS.val rfl rfl rfl (Ev.load1 (agg_run rfl) rfl (by exact H.ldL 0 rfl _ rfl)) ?_
    refine OPS.call (d := some 32) rfl rfl rfl (EvC.func (fun_run rfl)) (r8Node n l[j].f _ _ _ _) ?_
    rintro _ w ⟨rfl, hb⟩
    refine ⟨_, rfl, ?_⟩
    replace H := H.toBelow hb; clear hb
    refine OPS.val rfl rfl rfl (Ev.not rfl) ?_
    refine OPS.val rfl rfl rfl (Ev.mvB rfl) ?_
    refine OPS.gval rfl rfl rfl rfl rfl (fun hg => (by exact Ev.loadO 1 H rfl (agg_run rfl) (size_run rfl) (by rfl) rfl)) ?_
    refine OPS.gval rfl rfl rfl rfl rfl (fun hg => Ev.fieldAddr (fld_run rfl) (by rfl)) ?_
    refine OPS.gval rfl rfl rfl rfl rfl (fun hg => Ev.load1 (agg_run rfl) (by exact gvE hg rfl) (by exact H.ldL 0 rfl _ rfl)) ?_
    refine OPS.gcall0 (f := 65) (r8Node n l[j].t _ _ _ _) (fun _ _ h => h) rfl rfl rfl rfl rfl (fun hg => EvC.conv (EvC.func (fun_run rfl)) (l2 (by exact gvE hg rfl) (by exact gvE hg rfl))) ?_
    intro w hbc; replace H := H.toBelow hbc
    refine OPS.gval rfl rfl rfl rfl rfl (fun hg => Ev.not (by exact gvE hg rfl)) ?_
    refine OPS.val rfl rfl rfl ((by exact Ev.pickOr rfl rfl rfl)) ?_
    refine OPS.nil ?_
    refine WP.cond rfl (fun hc9 => ?_) (fun hc9 => ?_)
    · refine WP.seq ?_
      refine WP.region ?_
      refine OPS.val rfl rfl rfl (Ev.asI rfl) ?_
      refine OPS.nil ?_
      refine WP.ret ⟨_, rfl, ?_⟩
      exact ⟨by rw [e0, edgsErr_drop (by omega) hall, List.drop_eq_getElem_cons hlt, edgsErr, if_pos (show edgBad n l[j] = true from hc9)]; rfl, H.below⟩
    refine WP.skip ?_
    refine WP.seq ?_
    refine WP.region ?_
    refine OPS.val rfl rfl rfl (Ev.fieldAddr (fld_run rfl) rfl) ?_
    refine OPS.val rfl rfl rfl (Ev.load1 (agg_run rfl) rfl (by exact H.ldL 0 rfl _ rfl)) ?_
    refine OPS.val rfl rfl rfl (Ev.lss rfl rfl) ?_
    refine OPS.val rfl rfl rfl (Ev.mvB rfl) ?_
    refine OPS.gval rfl rfl rfl rfl rfl (fun hg => Ev.fieldAddr (fld_run rfl) (by rfl)) ?_
    refine OPS.gval rfl rfl rfl rfl rfl (fun hg => Ev.load1 (agg_run rfl) (by exact gvE hg rfl) (by exact H.ldL 0 rfl _ rfl)) ?_
    refine OPS.gval rfl rfl rfl rfl rfl (fun hg => Ev.gtr (by exact gvE hg rfl) (by rfl)) ?_
    refine OPS.val rfl rfl rfl ((by exact Ev.pickOr rfl rfl rfl)) ?_
    refine OPS.nil ?_
    refine WP.cond rfl (fun hc11 => ?_) (fun hc11 => ?_)
    · refine WP.seq ?_
      refine WP.region ?_
      refine OPS.val rfl rfl rfl (Ev.asI rfl) ?_
      refine OPS.nil ?_
      refine WP.ret ⟨_, rfl, ?_⟩
      exact ⟨by rw [e0, edgsErr_drop (by omega) hall, List.drop_eq_getElem_cons hlt, edgsErr, if_neg (by rw [show edgBad n l[j] = false from hc9]; simp), if_pos (show edgRange l[j] = true from hc11)]; rfl, H.below⟩
    refine WP.skip ?_
    refine WP.region ?_
    refine OPS.val rfl rfl rfl (Ev.mvI rfl) ?_
    refine OPS.val rfl rfl rfl (Ev.add rfl rfl (by unfold fits; omega)) ?_
    refine OPS.val rfl rfl rfl (Ev.asI rfl) ?_
    refine OPS.nil ?_
    refine ⟨(by repeat (first | exact Agree.refl _ _ | exact Agree.mix _ _ _ | refine Agree.upd rfl ?_ | refine Agree.mix2 rfl ?_)), k - 1, by omega, j + 1, by omega, rfl, H.drop (by simp), fun i hi hij => ?_⟩
    rcases Nat.lt_succ_iff_lt_or_eq.1 hij with h | rfl
    · exact hall i hi h
    · exact ⟨hc9, hc11⟩
  refine WP.exit ?_
  refine XB.hit ?_
  refine WP.seq ?_
  refine WP.region ?_
  refine OPS.val rfl rfl rfl (Ev.asI rfl) ?_
  refine OPS.nil ?_
  refine WP.ret ⟨_, rfl, ?_⟩
  have : j = l.length := by simp at hc6; omega
  subst this
  exact ⟨by rw [e0, edgsErr_drop (by omega) hall]; simp [edgsErr]; rfl, H.below⟩

set_option maxHeartbeats 1000000 in
theorem r8To (n s : Nat) (A : Option Addr) (l : List Edg) (cap : Nat) (K : Nat → Bool) (D : Nat → Int) (w0 : World) (hok : RoadOk n l) (hs : s < n) (hR : RD (l.map rv) n s K D) (hz : EdgsAt w0 A l) :
    Calls Try.prog 75 #[.agg #[I n, .slice A l.length cap], I s] w0 fun e w' => ∃ (gd ge : Nat) (d ed : List Int), e = .returned (.tuple #[.slice (some ⟨gd, 0, none⟩) n n, .slice (some ⟨ge, 0, none⟩) n n]) ∧ d.length = n ∧ (∀ v, v < n → dAt d v = if K v = true then D v else 1099511627776) ∧ SH w0 [] w' [⟨gd, 3, d.map I⟩, ⟨ge, 3, ed.map I⟩] := by
  have H := SH.refl w0
  have hn2 := hok.n2
  have hll := hok.len
  have hok2 := hok.rv
  refine Calls.ofWP Try.func75 rfl Try.results75 Try.ntmps75 rfl ?_
  refine WP.seq ?_
  refine WP.region ?_
  refine OPS.box rfl rfl rfl rfl (cA rfl) H ?_
  clear H; intro g2 w H
  refine OPS.val rfl rfl rfl (Ev.asS rfl) ?_
  refine OPS.val rfl rfl rfl (Ev.asS rfl) ?_
  refine OPS.nil ?_
  refine WP.seq ?_
  refine WP.rheldC [6, 7, 14, 15, 16, 17, 18, 19] (fun u w' => ∃ gd ge : Nat, u 6 = .slice (some ⟨gd, 0, none⟩) n n ∧ u 7 = .slice (some ⟨ge, 0, none⟩) n n ∧ SH w0 [] w' [⟨gd, 3, (List.replicate n 0).map I⟩, ⟨ge, 3, (List.replicate n 0).map I⟩, ⟨g2, 24, [I n, .slice A l.length cap]⟩]) mixed H ?_ ?_
  · clear H; intro w hbw1 H
    refine OPH.take 0 rfl rfl rfl rfl (by kernel_rfl) (by kernel_rfl) (by kernel_rfl) rfl (by exact H) (fun w H => Ev.fieldAddr (fld_run rfl) rfl) ?_
    refine OPH.take 1 rfl rfl rfl rfl (by kernel_rfl) (by kernel_rfl) (by kernel_rfl) rfl (by exact H) (fun w H => Ev.load1 (agg_run rfl) rfl (by exact H.ldL 0 rfl _ rfl)) ?_
    refine OPH.take 3 rfl rfl rfl rfl (by kernel_rfl) (by kernel_rfl) (by kernel_rfl) rfl (by exact H) (fun w H => Ev.fieldAddr (fld_run rfl) rfl) ?_
    refine OPH.take 4 rfl rfl rfl rfl (by kernel_rfl) (by kernel_rfl) (by kernel_rfl) rfl (by exact H) (fun w H => Ev.load1 (agg_run rfl) rfl (by exact H.ldL 0 rfl _ rfl)) ?_
    refine OPH.all [2, 5] (by kernel_rfl) (by simp) rfl ?_
    intro i hi; simp only [List.mem_cons, List.not_mem_nil, or_false] at hi
    rcases hi with rfl | rfl
    · refine ⟨_, rfl, ?_⟩
      refine OPS.makeSlice rfl rfl rfl rfl (sl_run rfl) rfl rfl rfl (by omega) (by omega) H ?_
      clear H; intro g16 w H
      refine OPS.nil ?_
      refine ⟨(by exact H.drop (List.sublist_cons_self _ _)), ?_⟩
      refine OPH.take 6 rfl rfl rfl rfl (by kernel_rfl) (by kernel_rfl) (by kernel_rfl) rfl (by exact H.drop (List.sublist_cons_self _ _)) (fun w H => Ev.asS rfl) ?_
      refine OPH.all [5] (by kernel_rfl) (by simp) rfl ?_
      intro i hi; simp only [List.mem_cons, List.not_mem_nil, or_false] at hi
      rcases hi with rfl
      · refine ⟨_, rfl, ?_⟩
        refine OPS.makeSlice rfl rfl rfl rfl (sl_run rfl) rfl rfl rfl (by omega) (by omega) H ?_
        clear H; intro g19 w H
        refine OPS.nil ?_
        refine ⟨(by exact H.drop ((List.sublist_cons_self _ _).trans (List.sublist_cons_self _ _))), ?_⟩
        refine OPH.take 7 rfl rfl rfl rfl (by kernel_rfl) (by kernel_rfl) (by kernel_rfl) rfl (by exact H.drop ((List.sublist_cons_self _ _).trans (List.sublist_cons_self _ _))) (fun w H => Ev.asS rfl) ?_
        refine OPH.done (by kernel_rfl) ?_
        refine ⟨(by repeat (first | exact Agree.refl _ _ | exact Agree.mix _ _ _ | refine Agree.upd rfl ?_ | refine Agree.mix2 rfl ?_)), g16, g19, rfl, rfl, ?_⟩; rw [← mkL_ones]; exact H.reidx [1, 0, 2] (by decide) rfl
    · refine ⟨_, rfl, ?_⟩
      refine OPS.makeSlice rfl rfl rfl rfl (sl_run rfl) rfl rfl rfl (by omega) (by omega) H ?_
      clear H; intro g19 w H
      refine OPS.nil ?_
      refine ⟨(by exact H.drop (List.sublist_cons_self _ _)), ?_⟩
      refine OPH.all [2] (by kernel_rfl) (by simp) rfl ?_
      intro i hi; simp only [List.mem_cons, List.not_mem_nil, or_false] at hi
      rcases hi with rfl
      · refine ⟨_, rfl, ?_⟩
        refine OPS.makeSlice rfl rfl rfl rfl (sl_run rfl) rfl rfl rfl (by omega) (by omega) H ?_
        clear H; intro g16 w H
        refine OPS.nil ?_
        refine ⟨(by exact H.drop ((List.sublist_cons_self _ _).trans (List.sublist_cons_self _ _))), ?_⟩
        refine OPH.take 6 rfl rfl rfl rfl (by kernel_rfl) (by kernel_rfl) (by kernel_rfl) rfl (by exact H.drop ((List.sublist_cons_self _ _).trans (List.sublist_cons_self _ _))) (fun w H => Ev.asS rfl) ?_
        refine OPH.take 7 rfl rfl rfl rfl (by kernel_rfl) (by kernel_rfl) (by kernel_rfl) rfl (by exact H.drop ((List.sublist_cons_self _ _).trans (List.sublist_cons_self _ _))) (fun w H => Ev.asS rfl) ?_
        refine OPH.done (by kernel_rfl) ?_
        refine ⟨(by repeat (first | exact Agree.refl _ _ | exact Agree.mix _ _ _ | refine Agree.upd rfl ?_ | refine Agree.mix2 rfl ?_)), g16, g19, rfl, rfl, ?_⟩; rw [← mkL_ones]; exact H
  clear H
  rintro u w ⟨gd, ge, h6, h7, H⟩
  refine WP.know (t := 6) h6 (WP.know (t := 7) h7 ?_)
  have hfl : (List.replicate n (1099511627776 : Int)).length = (List.replicate n (0 : Int)).length := by simp
  refine WP.seq ?_
  refine WP.seq ?_
  refine WP.region ?_
  refine OPS.val rfl rfl rfl (Ev.asI rfl) ?_
  refine OPS.nil ?_
  refine WP.block ?_
  refine WP.loop [8, 20, 21, 22, 23, 24, 25, 26, 27, 28, 29, 30, 31] (fun k e w' => ∃ v : Nat, v + k = n ∧ e 8 = I v ∧ SH w0 [] w' [⟨gd, 3, (mixL (List.replicate n 1099511627776) (List.replicate n 0) v).map I⟩, ⟨ge, 3, (mixL (List.replicate n 1099511627776) (List.replicate n 0) v).map I⟩, ⟨g2, 24, [I n, .slice A l.length cap]⟩]) (n) (⟨0, by omega, rfl, by rw [mixL_zero]; exact H⟩) ?_
  clear H
  rintro k u w ⟨v, hk, h8, H⟩
  refine WP.know (t := 8) h8 ?_
  refine WP.seq ?_
  refine WP.seq ?_
  refine WP.region ?_
  refine OPS.val rfl rfl rfl (Ev.mvI rfl) ?_
  refine OPS.val rfl rfl rfl (Ev.fieldAddr (fld_run rfl) rfl) ?_
  refine OPS.val rfl rfl rfl (Ev.load1 (agg_run rfl) rfl (by exact H.ldL 2 rfl _ rfl)) ?_
  refine OPS.val rfl rfl rfl (Ev.lss rfl rfl) ?_
  refine OPS.nil ?_
  refine WP.cond rfl (fun hc3 => ?_) (fun hc3 => ?_)
  · have hvn : v < n := by simp at hc3; omega
    have hml : (mixL (List.replicate n (1099511627776 : Int)) (List.replicate n 0) v).length = n := by rw [mixL_length hfl (by simp; omega)]; simp
    have hms := mixL_set (m := List.replicate n (0 : Int)) hfl (show v < (List.replicate n (1099511627776 : Int)).length by simpa using hvn)
    rw [List.getElem_replicate] at hms
    have hpu : putL ((mixL (List.replicate n (1099511627776 : Int)) (List.replicate n 0) v).map I) (0 + v) [I 1099511627776] = (mixL (List.replicate n 1099511627776) (List.replicate n 0) (v + 1)).map I := by rw [Nat.zero_add, putL_ones, hms]
    refine WP.skip ?_
    refine WP.seq ?_
    refine WP.block ?_
    refine WP.region ?_
    refine OPS.val rfl rfl rfl (Ev.mvS rfl) ?_
    refine OPS.val rfl rfl rfl (Ev.mvI rfl) ?_
    refine OPS.val rfl rfl rfl (Ev.mvS rfl) ?_
    refine OPS.val rfl rfl rfl (Ev.mvI rfl) ?_
    refine OPS.val rfl rfl rfl ((by exact Ev.indexAddr1 (el_run rfl) (size_run rfl) rfl rfl rfl (by omega))) ?_
    refine OPS.store (vs := [I 1099511627776]) 0 _ rfl rfl rfl (size_run rfl) rfl (cI rfl) rfl rfl H rfl (by simp only [List.length_map, hml]; omega) ?_
    clear H; intro w H
    simp only [List.set_cons_zero, List.set_cons_succ] at H
    rw [hpu] at H
    refine OPS.val rfl rfl rfl ((by exact Ev.indexAddr1 (el_run rfl) (size_run rfl) rfl rfl rfl (by omega))) ?_
    refine OPS.store (vs := [I 1099511627776]) 1 _ rfl rfl rfl (size_run rfl) rfl (cI rfl) rfl rfl H rfl (by simp only [List.length_map, hml]; omega) ?_
    clear H; intro w H
    simp only [List.set_cons_zero, List.set_cons_succ] at H
    rw [hpu] at H
    refine OPS.nil ?_
    refine WP.region ?_
    refine OPS.val rfl rfl rfl (Ev.mvI rfl) ?_
    refine OPS.val rfl rfl rfl (Ev.add rfl rfl (by unfold fits; omega)) ?_
    refine OPS.val rfl rfl rfl (Ev.asI rfl) ?_
    refine OPS.nil ?_
    exact ⟨(by repeat (first | exact Agree.refl _ _ | exact Agree.mix _ _ _ | refine Agree.upd rfl ?_ | refine Agree.mix2 rfl ?_)), k - 1, by omega, v + 1, by omega, rfl, H⟩
  have hvn : v = n := by simp at hc3; omega
  have hma : mixL (List.replicate n (1099511627776 : Int)) (List.replicate n 0) n = List.replicate n 1099511627776 := by
    have h := mixL_all hfl
    rw [List.length_replicate] at h; exact h
  rw [hvn, hma] at H
  have hpu : putL ((List.replicate n (1099511627776 : Int)).map I) (0 + s) [I 0] = ((List.replicate n 1099511627776).set s 0).map I := by rw [Nat.zero_add, putL_ones]
  refine WP.exit ?_
  refine XB.hit ?_
  refine WP.seq ?_
  refine WP.region ?_
  refine OPS.val rfl rfl rfl (Ev.mvS rfl) ?_
  refine OPS.val rfl rfl rfl (Ev.mvI rfl) ?_
  refine OPS.val rfl rfl rfl (Ev.mvS rfl) ?_
  refine OPS.val rfl rfl rfl (Ev.mvI rfl) ?_
  refine OPS.val rfl rfl rfl ((by exact Ev.indexAddr1 (el_run rfl) (size_run rfl) rfl rfl rfl (by omega))) ?_
  refine OPS.store (vs := [I 0]) 0 _ rfl rfl rfl (size_run rfl) rfl (cI rfl) rfl rfl H rfl (by simp; omega) ?_
  clear H; intro w H
  simp only [List.set_cons_zero, List.set_cons_succ] at H
  rw [hpu] at H
  refine OPS.val rfl rfl rfl ((by exact Ev.indexAddr1 (el_run rfl) (size_run rfl) rfl rfl rfl (by omega))) ?_
  refine OPS.store (vs := [I 0]) 1 _ rfl rfl rfl (size_run rfl) rfl (cI rfl) rfl rfl H rfl (by simp; omega) ?_
  clear H; intro w H
  simp only [List.set_cons_zero, List.set_cons_succ] at H
  rw [hpu] at H
  refine OPS.nil ?_
  refine WP.seq ?_
  refine WP.seq ?_
  refine WP.region ?_
  refine OPS.val rfl rfl rfl (Ev.asI rfl) ?_
  refine OPS.nil ?_
  refine WP.block ?_
  refine WP.loop [9, 10, 11, 12, 13, 38, 39, 40, 41, 42, 43, 44, 45, 46, 47, 48, 49, 50, 51, 52, 53, 54, 55, 56, 57, 58, 59, 60, 61, 62, 63, 64, 65, 66, 67, 68, 69, 70, 71, 72, 73, 74, 75, 76, 77, 78, 79, 80, 81, 82, 83, 84, 85, 86, 87, 88, 89, 90, 91, 92, 93, 94, 95, 96, 97, 98, 99, 100, 101, 102, 103, 104, 105, 106, 107, 108, 109, 110, 111, 112] (fun k e w' => ∃ (r : Nat) (d ed : List Int), r + k = n ∧ e 9 = I r ∧ SH w0 [] w' [⟨gd, 3, d.map I⟩, ⟨ge, 3, ed.map I⟩, ⟨g2, 24, [I n, .slice A l.length cap]⟩] ∧ BFR (l.map rv) n s K D r (fun i => i < 0) d ed (1000 * r)) (n) (⟨0, _, _, by omega, rfl, H, (BFR.init hR hok2 hs).mono (fun _ _ h => absurd h (by omega)) (by omega)⟩) ?_
  clear H
  rintro k u w ⟨r, d, ed, hk, h9, H, hB⟩
  refine WP.know (t := 9) h9 ?_
  refine WP.seq ?_
  refine WP.seq ?_
  refine WP.region ?_
  refine OPS.val rfl rfl rfl (Ev.mvI rfl) ?_
  refine OPS.val rfl rfl rfl (Ev.fieldAddr (fld_run rfl) rfl) ?_
  refine OPS.val rfl rfl rfl (Ev.load1 (agg_run rfl) rfl (by exact H.ldL 2 rfl _ rfl)) ?_
  refine OPS.val rfl rfl rfl (Ev.lss rfl rfl) ?_
  refine OPS.nil ?_
  refine WP.cond rfl (fun hc8 => ?_) (fun hc8 => ?_)
  · have hrn : r < n := by simp at hc8; omega
    refine WP.skip ?_
    refine WP.seq ?_
    refine WP.block ?_
    refine WP.seq ?_
    refine WP.region ?_
    refine OPS.val rfl rfl rfl (Ev.asI rfl) ?_
    refine OPS.nil ?_
    refine WP.block ?_
    refine WP.loop [10, 11, 12, 13, 44, 45, 46, 47, 48, 49, 50, 51, 52, 53, 54, 55, 56, 57, 58, 59, 60, 61, 62, 63, 64, 65, 66, 67, 68, 69, 70, 71, 72, 73, 74, 75, 76, 77, 78, 79, 80, 81, 82, 83, 84, 85, 86, 87, 88, 89, 90, 91, 92, 93, 94, 95, 96, 97, 98, 99, 100, 101, 102, 103, 104, 105, 106, 107, 108, 109, 110, 111, 112] (fun k2 e w' => ∃ (j : Nat) (d ed : List Int), j + k2 = l.length ∧ e 10 = I j ∧ SH w0 [] w' [⟨gd, 3, d.map I⟩, ⟨ge, 3, ed.map I⟩, ⟨g2, 24, [I n, .slice A l.length cap]⟩] ∧ BFR (l.map rv) n s K D r (fun i => i < j) d ed (1000 * r + j)) (l.length) (⟨0, d, ed, by omega, rfl, H, hB.mono (fun _ _ h => h) (by omega)⟩) ?_
    clear H hB
    rintro k2 u2 w ⟨j, d, ed, hk2, h10, H, hB⟩
    refine WP.know (t := 10) h10 ?_
    refine WP.seq ?_
    refine WP.seq ?_
    refine WP.region ?_
    refine OPS.val rfl rfl rfl (Ev.mvI rfl) ?_
    refine OPS.val rfl rfl rfl (Ev.fieldAddr (fld_run rfl) rfl) ?_
    refine OPS.val rfl rfl rfl (Ev.load1 (agg_run rfl) rfl (by exact H.ldL 2 rfl _ rfl)) ?_
    refine OPS.val rfl rfl rfl (Ev.len (el_run rfl) rfl) ?_
    refine OPS.val rfl rfl rfl (Ev.lss rfl rfl) ?_
    refine OPS.nil ?_
    refine WP.cond rfl (fun hc11 => ?_) (fun hc11 => ?_)
    · have hlt : j < l.length := by simp at hc11; omega
      obtain ⟨b, o, rfl, hc⟩ := hz j hlt
      have hc' := cellsAt_sh H hc
      have hnd := hok.nodes l[j] (List.getElem_mem hlt)
      have hsc := hok.secs l[j] (List.getElem_mem hlt)
      obtain ⟨a, hfa⟩ := Int.eq_ofNat_of_zero_le hnd.1.1
      obtain ⟨b', htb⟩ := Int.eq_ofNat_of_zero_le hnd.2.1
      have ham : a < n := by omega
      have hbm : b' < n := by omega
      have hEd : EdgeAt (l.map rv) j b' a l[j].secs := ⟨by simpa using hlt, by simp [rv, htb], by simp [rv, hfa], by simp [rv]⟩
      have hdl := hB.dlen
      have hel := hB.elen
      have hda : dAt d a = d[a]'(by omega) := by simp [dAt, hdl, ham]
      have hdb : dAt d b' = d[b']'(by omega) := by simp [dAt, hdl, hbm]
      have hea : dAt ed a = ed[a]'(by omega) := by simp [dAt, hel, ham]
      have heb : dAt ed b' = ed[b']'(by omega) := by simp [dAt, hel, hbm]
      have hbd : ∀ v, v < n → 0 ≤ dAt d v ∧ dAt d v ≤ 1099511627776 := fun v hv => by
        cases hk : K v with
        | true => have h1 := hB.lo v hv hk; have h2 := hR.nn v hv hk; omega
        | false => rw [hB.unk v hv hk]; omega
      have hba := hbd a ham
      have hbb := hbd b' hbm
      have hebb := hB.ebd b' hbm
      rw [hda] at hba
      rw [hdb] at hbb
      rw [heb] at hebb
      refine WP.skip ?_
      refine WP.seq ?_
      refine WP.block ?_
      refine WP.seq ?_
      refine WP.region ?_
      refine OPS.val rfl rfl rfl (Ev.fieldAddr (fld_run rfl) rfl) ?_
      refine OPS.val rfl rfl rfl (Ev.load1 (agg_run rfl) rfl (by exact H.ldL 2 rfl _ rfl)) ?_
      refine OPS.val rfl rfl rfl (Ev.mvI rfl) ?_
      refine OPS.val rfl rfl rfl ((by exact Ev.indexAddr (el_run rfl) (size_run rfl) rfl rfl rfl (by omega))) ?_
      refine OPS.val rfl rfl rfl ((by (change Ev _ _ _ _ (Op.load 72 (Operand.tmp 54)) _; exact Ev.loadN (edgCells l[j]) (agg_run rfl) (size_run rfl) rfl hc'))) ?_
      refine OPS.alloc rfl rfl rfl rfl (zero_run rfl) rfl H ?_
      clear H; intro g11 w H
      refine OPS.store 0 _ rfl rfl rfl (size_run rfl) rfl (cA rfl) rfl rfl H rfl (by simp) ?_
      clear H; intro w H; try simp only [List.set_cons_zero, List.set_cons_succ, putL, Nat.zero_add] at H
      refine OPS.nil ?_
      refine WP.seq ?_
      rw [show edgCells l[j] = [I a, I b', I l[j].secs] from by unfold edgCells; rw [hfa, htb]] at H
      refine WP.rstill mixed (by kernel_rfl) H ?_
      clear H; intro w hbw14 H
      have hxb := (onesOwn H 1 rfl).atK (show b' < d.length by omega)
      have hyb := (onesOwn H 2 rfl).atK (show b' < ed.length by omega)
      refine OPS.val rfl rfl rfl (Ev.mvS rfl) ?_
      refine OPS.val rfl rfl rfl (Ev.fieldAddr (fld_run rfl) rfl) ?_
      refine OPS.val rfl rfl rfl (Ev.load1 (agg_run rfl) rfl (by exact H.ldL 0 rfl _ rfl)) ?_
      refine OPS.val rfl rfl rfl ((by exact Ev.indexAddr1 (el_run rfl) (size_run rfl) rfl rfl rfl (by omega))) ?_
      refine OPS.val rfl rfl rfl (Ev.load1 (agg_run rfl) rfl (by assumption)) ?_
      refine OPS.val rfl rfl rfl (Ev.fieldAddr (fld_run rfl) rfl) ?_
      refine OPS.val rfl rfl rfl (Ev.load1 (agg_run rfl) rfl (by exact H.ldL 0 rfl _ rfl)) ?_
      refine OPS.val rfl rfl rfl (Ev.add rfl rfl (by unfold fits; omega)) ?_
      refine OPS.val rfl rfl rfl (Ev.mvS rfl) ?_
      refine OPS.val rfl rfl rfl (Ev.fieldAddr (fld_run rfl) rfl) ?_
      refine OPS.val rfl rfl rfl (Ev.load1 (agg_run rfl) rfl (by exact H.ldL 0 rfl _ rfl)) ?_
      refine OPS.val rfl rfl rfl ((by exact Ev.indexAddr1 (el_run rfl) (size_run rfl) rfl rfl rfl (by omega))) ?_
      refine OPS.val rfl rfl rfl (Ev.load1 (agg_run rfl) rfl (by assumption)) ?_
      refine OPS.val rfl rfl rfl (Ev.add rfl rfl (by unfold fits; omega)) ?_
      refine OPS.val rfl rfl rfl (Ev.asI rfl) ?_
      refine OPS.val rfl rfl rfl (Ev.asI rfl) ?_
      refine OPS.nil_s ?_
      refine WP.seq ?_
      clear hxb hyb
      have hxa := (onesOwn H 1 rfl).atK (show a < d.length by omega)
      have hxb := (onesOwn H 1 rfl).atK (show b' < d.length by omega)
      have hya := (onesOwn H 2 rfl).atK (show a < ed.length by omega)
      refine WP.region ?_
      refine OPS.val rfl rfl rfl (Ev.mvS rfl) ?_
      refine OPS.val rfl rfl rfl (Ev.fieldAddr (fld_run rfl) rfl) ?_
      refine OPS.val rfl rfl rfl (Ev.load1 (agg_run rfl) rfl (by exact H.ldL 0 rfl _ rfl)) ?_
      refine OPS.val rfl rfl rfl ((by exact Ev.indexAddr1 (el_run rfl) (size_run rfl) rfl rfl rfl (by omega))) ?_
      refine OPS.val rfl rfl rfl (Ev.load1 (agg_run rfl) rfl (by assumption)) ?_
      refine OPS.val rfl rfl rfl (Ev.lss rfl rfl) ?_
      refine OPS.val rfl rfl rfl (Ev.mvB rfl) ?_
      refine OPS.gval rfl rfl rfl rfl rfl (fun hg => Ev.mvI (by rfl)) ?_
      refine OPS.gval rfl rfl rfl rfl rfl (fun hg => Ev.mvS (by rfl)) ?_
      refine OPS.gval rfl rfl rfl rfl rfl (fun hg => Ev.fieldAddr (fld_run rfl) (by rfl)) ?_
      refine OPS.gval rfl rfl rfl rfl rfl (fun hg => Ev.load1 (agg_run rfl) (by exact gvE hg rfl) (by exact H.ldL 0 rfl _ rfl)) ?_
      refine OPS.gval rfl rfl rfl rfl rfl (fun hg => (by exact Ev.indexAddr1 (el_run rfl) (size_run rfl) (by exact gvE hg rfl) (by exact gvE hg rfl) rfl (by omega))) ?_
      refine OPS.gval rfl rfl rfl rfl rfl (fun hg => Ev.load1 (agg_run rfl) (by exact gvE hg rfl) (by assumption)) ?_
      refine OPS.gval rfl rfl rfl rfl rfl (fun hg => Ev.lss (by exact gvE hg rfl) (by exact gvE hg rfl)) ?_
      refine OPS.gval rfl rfl rfl rfl rfl (fun hg => Ev.mvB (by exact gvE hg rfl)) ?_
      refine OPS.gvalN rfl rfl (GB.g rfl) rfl rfl (fun hg => Ev.mvI (by rfl)) ?_
      refine OPS.gvalN rfl rfl (GB.g rfl) rfl rfl (fun hg => Ev.mvS (by rfl)) ?_
      refine OPS.gvalN rfl rfl (GB.g rfl) rfl rfl (fun hg => Ev.fieldAddr (fld_run rfl) (by rfl)) ?_
      refine OPS.gvalN rfl rfl (GB.g rfl) rfl rfl (fun hg => Ev.load1 (agg_run rfl) (by exact gvE hg rfl) (by exact H.ldL 0 rfl _ rfl)) ?_
      refine OPS.gvalN rfl rfl (GB.g rfl) rfl rfl (fun hg => (by exact Ev.indexAddr1 (el_run rfl) (size_run rfl) (by exact gvE hg rfl) (by exact gvE hg rfl) rfl (by omega))) ?_
      refine OPS.gvalN rfl rfl (GB.g rfl) rfl rfl (fun hg => Ev.load1 (agg_run rfl) (by exact gvE hg rfl) (by assumption)) ?_
      refine OPS.gvalN rfl rfl (GB.g rfl) rfl rfl (fun hg => Ev.eql (by exact gvE hg rfl) (by exact gvE hg rfl)) ?_
      refine OPS.gvalN rfl rfl (GB.g rfl) rfl rfl (fun hg => Ev.mvB (by exact gvE hg rfl)) ?_
      refine OPS.gvalN rfl rfl (GB.g rfl) rfl rfl (fun hg => Ev.mvI (by rfl)) ?_
      refine OPS.gvalN rfl rfl (GB.g rfl) rfl rfl (fun hg => Ev.mvS (by rfl)) ?_
      refine OPS.gvalN rfl rfl (GB.g rfl) rfl rfl (fun hg => Ev.fieldAddr (fld_run rfl) (by rfl)) ?_
      refine OPS.gvalN rfl rfl (GB.g rfl) rfl rfl (fun hg => Ev.load1 (agg_run rfl) (by exact gvE hg rfl) (by exact H.ldL 0 rfl _ rfl)) ?_
      refine OPS.gvalN rfl rfl (GB.g rfl) rfl rfl (fun hg => (by exact Ev.indexAddr1 (el_run rfl) (size_run rfl) (by exact gvE hg rfl) (by exact gvE hg rfl) rfl (by omega))) ?_
      refine OPS.gvalN rfl rfl (GB.g rfl) rfl rfl (fun hg => Ev.load1 (agg_run rfl) (by exact gvE hg rfl) (by assumption)) ?_
      refine OPS.gvalN rfl rfl (GB.g rfl) rfl rfl (fun hg => Ev.lss (by exact gvE hg rfl) (by exact gvE hg rfl)) ?_
      refine OPS.gvalN rfl rfl (GB.g rfl) rfl rfl (fun hg => (by exact Ev.pickAnd2 (beqT hg) (gvE hg rfl) rfl rfl)) ?_
      refine OPS.gval rfl rfl rfl rfl rfl (fun hg => (by exact Ev.pickOr2 (beqT hg) (gvE hg rfl) rfl rfl)) ?_
      refine OPS.val rfl rfl rfl ((by exact Ev.pickAnd rfl rfl rfl)) ?_
      refine OPS.nil ?_
      refine WP.cond rfl (fun hc15 => ?_) (fun hc15 => ?_)
      · have hcond : d[b'] < 1099511627776 ∧ d[b'] + l[j].secs ≤ d[a] := by
          simp only [Bool.and_eq_true, Bool.or_eq_true, decide_eq_true_eq] at hc15
          omega
        have hB2 := hB.relax hR hok2 hEd hbm ham (by rw [hdb]; exact hcond.1) (by rw [hdb, hda]; exact hcond.2)
        rw [hdb, heb] at hB2
        have Hf := H
        replace H := H.reidx (L' := [⟨g11, 72, [I a, I b', I l[j].secs]⟩, ⟨g2, 24, [I n, .slice (some ⟨b, o, none⟩) l.length cap]⟩]) [0, 3] (by decide) rfl
        have hpu1 : putL (d.map I) (0 + a) [I (d[b'] + l[j].secs)] = (d.set a (d[b'] + l[j].secs)).map I := by rw [Nat.zero_add, putL_ones]
        have hpu2 : putL (ed.map I) (0 + a) [I (ed[b'] + 1)] = (ed.set a (ed[b'] + 1)).map I := by rw [Nat.zero_add, putL_ones]
        refine WP.rheldC [103, 104, 105, 106, 107, 108, 109, 110, 111, 112] (fun _ w' => SH w0 [] w' [⟨g11, 72, [I a, I b', I l[j].secs]⟩, ⟨gd, 3, (d.set a (d[b'] + l[j].secs)).map I⟩, ⟨ge, 3, (ed.set a (ed[b'] + 1)).map I⟩, ⟨g2, 24, [I n, .slice (some ⟨b, o, none⟩) l.length cap]⟩]) mixed H ?_ ?_
        · clear H; intro w hbw16 H
          refine OPH.take 0 rfl rfl rfl rfl (by kernel_rfl) (by kernel_rfl) (by kernel_rfl) rfl (by exact H) (fun w H => Ev.mvS rfl) ?_
          refine OPH.take 1 rfl rfl rfl rfl (by kernel_rfl) (by kernel_rfl) (by kernel_rfl) rfl (by exact H) (fun w H => Ev.fieldAddr (fld_run rfl) rfl) ?_
          refine OPH.take 2 rfl rfl rfl rfl (by kernel_rfl) (by kernel_rfl) (by kernel_rfl) rfl (by exact H) (fun w H => Ev.load1 (agg_run rfl) rfl (by exact H.ldL 0 rfl _ rfl)) ?_
          refine OPH.take 3 rfl rfl rfl rfl (by kernel_rfl) (by kernel_rfl) (by kernel_rfl) rfl (by exact H) (fun w H => Ev.mvS rfl) ?_
          refine OPH.take 4 rfl rfl rfl rfl (by kernel_rfl) (by kernel_rfl) (by kernel_rfl) rfl (by exact H) (fun w H => Ev.fieldAddr (fld_run rfl) rfl) ?_
          refine OPH.take 5 rfl rfl rfl rfl (by kernel_rfl) (by kernel_rfl) (by kernel_rfl) rfl (by exact H) (fun w H => Ev.load1 (agg_run rfl) rfl (by exact H.ldL 0 rfl _ rfl)) ?_
          refine OPH.take 6 rfl rfl rfl rfl (by kernel_rfl) (by kernel_rfl) (by kernel_rfl) rfl (by exact H) (fun w H => Ev.mvI rfl) ?_
          refine OPH.take 7 rfl rfl rfl rfl (by kernel_rfl) (by kernel_rfl) (by kernel_rfl) rfl (by exact H) (fun w H => Ev.mvI rfl) ?_
          refine OPH.take 8 rfl rfl rfl rfl (by kernel_rfl) (by kernel_rfl) (by kernel_rfl) rfl (by exact H) (fun w H => (by exact Ev.indexAddr1 (el_run rfl) (size_run rfl) rfl rfl rfl (by omega))) ?_
          refine OPH.all [9] (by kernel_rfl) (by simp) rfl ?_
          intro i hi; simp only [List.mem_cons, List.not_mem_nil, or_false] at hi
          rcases hi with rfl
          · refine ⟨_, rfl, ?_⟩
            try replace Hf := Hf.toBelow hbw16
            refine OPS.store (vs := [I (d[b'] + l[j].secs)]) 1 _ rfl rfl rfl (size_run rfl) rfl (cI rfl) rfl rfl Hf rfl (by simp only [List.length_map]; omega) ?_
            clear H Hf; intro w Hf
            simp only [List.set_cons_zero, List.set_cons_succ] at Hf
            rw [hpu1] at Hf
            have H := Hf.reidx (L' := [⟨g11, 72, [I a, I b', I l[j].secs]⟩, ⟨g2, 24, [I n, .slice (some ⟨b, o, none⟩) l.length cap]⟩]) [0, 3] (by decide) rfl
            refine OPS.nil ?_
            refine ⟨(by exact H), ?_⟩
            refine OPH.take 10 rfl rfl rfl rfl (by kernel_rfl) (by kernel_rfl) (by kernel_rfl) rfl (by exact H) (fun w H => (by exact Ev.indexAddr1 (el_run rfl) (size_run rfl) rfl rfl rfl (by omega))) ?_
            refine OPH.all [11] (by kernel_rfl) (by simp) rfl ?_
            intro i hi; simp only [List.mem_cons, List.not_mem_nil, or_false] at hi
            rcases hi with rfl
            · refine ⟨_, rfl, ?_⟩
              try replace Hf := Hf.toBelow hbw16
              refine OPS.store (vs := [I (ed[b'] + 1)]) 2 _ rfl rfl rfl (size_run rfl) rfl (cI rfl) rfl rfl Hf rfl (by simp only [List.length_map]; omega) ?_
              clear H Hf; intro w Hf
              simp only [List.set_cons_zero, List.set_cons_succ] at Hf
              rw [hpu2] at Hf
              have H := Hf.reidx (L' := [⟨g11, 72, [I a, I b', I l[j].secs]⟩, ⟨g2, 24, [I n, .slice (some ⟨b, o, none⟩) l.length cap]⟩]) [0, 3] (by decide) rfl
              refine OPS.nil ?_
              refine ⟨(by exact H), ?_⟩
              refine OPH.done (by kernel_rfl) ?_
              exact ⟨(by repeat (first | exact Agree.refl _ _ | exact Agree.mix _ _ _ | refine Agree.upd rfl ?_ | refine Agree.mix2 rfl ?_)), Hf⟩
        clear H
        rintro u4 w H
        have hnx : ∃ (d ed : List Int), SH w0 [] w [⟨gd, 3, d.map I⟩, ⟨ge, 3, ed.map I⟩, ⟨g2, 24, [I n, .slice (some ⟨b, o, none⟩) l.length cap]⟩] ∧ BFR (l.map rv) n s K D r (fun i => i < j + 1) d ed (1000 * r + (j + 1 : Nat)) :=
          ⟨_, _, H.drop (List.sublist_cons_self _ _), hB2.mono (fun i _ q => by omega) (by omega)⟩
        refine WP.region ?_
        refine OPS.val rfl rfl rfl (Ev.mvI rfl) ?_
        refine OPS.val rfl rfl rfl (Ev.add rfl rfl (by unfold fits; omega)) ?_
        refine OPS.val rfl rfl rfl (Ev.asI rfl) ?_
        refine OPS.nil ?_
        obtain ⟨d', ed', H', hB'⟩ := hnx
        exact ⟨(by repeat (first | exact Agree.refl _ _ | exact Agree.mix _ _ _ | refine Agree.upd rfl ?_ | refine Agree.mix2 rfl ?_)), k2 - 1, by omega, j + 1, d', ed', by omega, rfl, H', hB'⟩
      have hno : ¬ (dAt d b' < 1099511627776 ∧ dAt d b' + l[j].secs < dAt d a) := by
        rw [hda, hdb]
        rintro ⟨q1, q2⟩
        simp [q1, q2] at hc15
      have hB2 := hB.keep hR hok2 hEd hno
      have hnx : ∃ (d ed : List Int), SH w0 [] w [⟨gd, 3, d.map I⟩, ⟨ge, 3, ed.map I⟩, ⟨g2, 24, [I n, .slice (some ⟨b, o, none⟩) l.length cap]⟩] ∧ BFR (l.map rv) n s K D r (fun i => i < j + 1) d ed (1000 * r + (j + 1 : Nat)) :=
        ⟨d, ed, H.drop (List.sublist_cons_self _ _), hB2.mono (fun i _ q => by omega) (by omega)⟩
      refine WP.skip ?_
      refine WP.region ?_
      refine OPS.val rfl rfl rfl (Ev.mvI rfl) ?_
      refine OPS.val rfl rfl rfl (Ev.add rfl rfl (by unfold fits; omega)) ?_
      refine OPS.val rfl rfl rfl (Ev.asI rfl) ?_
      refine OPS.nil ?_
      obtain ⟨d', ed', H', hB'⟩ := hnx
      exact ⟨(by repeat (first | exact Agree.refl _ _ | exact Agree.mix _ _ _ | refine Agree.upd rfl ?_ | refine Agree.mix2 rfl ?_)), k2 - 1, by omega, j + 1, d', ed', by omega, rfl, H', hB'⟩
    have hjl : j = l.length := by simp at hc11; omega
    subst hjl
    refine WP.exit ?_
    refine XB.hit ?_
    refine WP.region ?_
    refine OPS.val rfl rfl rfl (Ev.mvI rfl) ?_
    refine OPS.val rfl rfl rfl (Ev.add rfl rfl (by unfold fits; omega)) ?_
    refine OPS.val rfl rfl rfl (Ev.asI rfl) ?_
    refine OPS.nil ?_
    exact ⟨(by repeat (first | exact Agree.refl _ _ | exact Agree.mix _ _ _ | refine Agree.upd rfl ?_ | refine Agree.mix2 rfl ?_)), k - 1, by omega, r + 1, d, ed, by omega, rfl, H, (BFR.round (by rw [List.length_map]; exact hB) hR hok2 hs).mono (fun _ _ h => h) (by omega)⟩
  refine WP.exit ?_
  refine XB.hit ?_
  refine WP.seq ?_
  refine WP.region ?_
  refine OPS.val rfl rfl rfl (Ev.mvS rfl) ?_
  refine OPS.val rfl rfl rfl (Ev.mvS rfl) ?_
  refine OPS.val rfl rfl rfl (Ev.asS rfl) ?_
  refine OPS.val rfl rfl rfl (Ev.asS rfl) ?_
  refine OPS.nil ?_
  refine WP.ret ⟨_, rfl, ?_⟩
  have hrn : n ≤ r := by simp at hc8; omega
  exact ⟨gd, ge, d, ed, rfl, hB.dlen, hB.done hrn, H.drop ((List.Sublist.cons_cons _ (List.Sublist.cons_cons _ (List.nil_sublist _))))⟩
end Go.Proofs.Ytfddebpeiilohaa

/-
  Walks: in, the functions of slices and cmp, twice.
-/
set_option linter.all false
namespace Go.Proofs.Ytfddebpeiilohaa
open Go Go.W Go.RowKit

def inB (n lo hi : Int) : Bool := decide (lo ≤ n) && decide (n ≤ hi)
theorem truckIn (n lo hi : Int) (w0 : World) :
    Calls Try.prog 50 #[I n, I lo, I hi] w0 fun e w' => e = .returned (.bool (inB n lo hi)) ∧ Below w0.heap.size w0 w' := by
  have H := SH.refl w0
  refine Calls.ofWP Try.func50 rfl Try.results50 Try.ntmps50 rfl ?_
  refine WP.seq ?_
  refine WP.region ?_
  refine OPS.val rfl rfl rfl (Ev.asB rfl) ?_
  refine OPS.nil ?_
  refine WP.seq ?_
  refine WP.region ?_
  refine OPS.val rfl rfl rfl (Ev.mvI rfl) ?_
  refine OPS.val rfl rfl rfl (Ev.mvI rfl) ?_
  refine OPS.val rfl rfl rfl (Ev.leq rfl rfl) ?_
  refine OPS.val rfl rfl rfl (Ev.mvB rfl) ?_
  refine OPS.gval rfl rfl rfl rfl rfl (fun hg => Ev.mvI (by rfl)) ?_
  refine OPS.gval rfl rfl rfl rfl rfl (fun hg => Ev.mvI (by rfl)) ?_
  refine OPS.gval rfl rfl rfl rfl rfl (fun hg => Ev.leq (by exact gvE hg rfl) (by exact gvE hg rfl)) ?_
  refine OPS.val rfl rfl rfl ((by exact Ev.pickAnd rfl rfl rfl)) ?_
  refine OPS.val rfl rfl rfl (Ev.asB rfl) ?_
  refine OPS.nil ?_
  refine WP.ret ⟨_, rfl, ?_⟩
  exact ⟨rfl, H.below⟩

theorem slIndex (A : Option Addr) (l : List Int) (cap : Nat) (x : Int) (w0 : World) (hz : IntsAt w0 A l) (hl : l.length ≤ maxLen) :
    Calls Try.prog 76 #[.slice A l.length cap, I x] w0 fun e w' => ∃ r : Int, e = .returned (I r) ∧ (0 ≤ r ↔ x ∈ l) ∧ Below w0.heap.size w0 w' := by
  have H := SH.refl w0
  have hl' : l.length ≤ 9223372036854775807 := by unfold maxLen at hl; omega
  refine Calls.ofWP Try.func76 rfl Try.results76 Try.ntmps76 rfl ?_
  refine WP.seq ?_
  refine WP.region ?_
  refine OPS.val rfl rfl rfl (Ev.asI rfl) ?_
  refine OPS.nil ?_
  refine WP.seq ?_
  refine WP.seq ?_
  refine WP.region ?_
  refine OPS.val rfl rfl rfl (Ev.mvS rfl) ?_
  refine OPS.val rfl rfl rfl (Ev.len (el_run rfl) rfl) ?_
  refine OPS.val rfl rfl rfl (Ev.mvI rfl) ?_
  refine OPS.nil ?_
  refine WP.block ?_
  refine WP.loop [4, 5, 8, 9, 10, 11, 12, 13, 14, 15, 16, 17, 18] (fun k e w' => ∃ j : Nat, j + k = l.length ∧ e 8 = I j ∧ SH w0 [] w' [] ∧ ∀ i (h : i < l.length), i < j → l[i] ≠ x) (l.length) (⟨0, by omega, rfl, H, fun i _ hi => absurd hi (by omega)⟩) ?_
  clear H
  rintro k u w ⟨j, hk, h8, H, hall⟩
  refine WP.know (t := 8) h8 ?_
  refine WP.seq ?_
  refine WP.region ?_
  refine OPS.val rfl rfl rfl (Ev.lss rfl rfl) ?_
  refine OPS.nil ?_
  refine WP.seq ?_
  refine WP.cond rfl (fun hc2 => ?_) (fun hc2 => ?_)
  · have hlt : j < l.length := by simpa using hc2
    obtain ⟨b, o, rfl, hx⟩ := hz j hlt
    refine WP.skip ?_
    refine WP.seq ?_
    refine WP.block ?_
    refine WP.seq ?_
    refine WP.region ?_
    refine OPS.val rfl rfl rfl (Ev.mvI rfl) ?_
    refine OPS.val rfl rfl rfl (Ev.asI rfl) ?_
    refine OPS.nil ?_
    refine WP.seq ?_
    refine WP.region ?_
    refine OPS.val rfl rfl rfl (Ev.mvI rfl) ?_
    refine OPS.val rfl rfl rfl (Ev.mvS rfl) ?_
    refine OPS.val rfl rfl rfl (Ev.mvI rfl) ?_
    refine OPS.val rfl rfl rfl ((by exact Ev.indexAddr1 (el_run rfl) (size_run rfl) rfl rfl rfl (by omega))) ?_
    refine OPS.val rfl rfl rfl (Ev.load1 (agg_run rfl) rfl (by exact H.ld0 (by assumption))) ?_
    refine OPS.val rfl rfl rfl (Ev.eql rfl rfl) ?_
    refine OPS.nil ?_
    refine WP.cond rfl (fun hc4 => ?_) (fun hc4 => ?_)
    · refine WP.seq ?_
      refine WP.region ?_
      refine OPS.val rfl rfl rfl (Ev.mvI rfl) ?_
      refine OPS.val rfl rfl rfl (Ev.asI rfl) ?_
      refine OPS.nil ?_
      refine WP.ret ⟨_, rfl, ?_⟩
      have he : x = l[j] := by simpa using hc4
      exact ⟨j, rfl, ⟨fun _ => by rw [he]; exact List.getElem_mem hlt, fun _ => by omega⟩, H.below⟩
    refine WP.skip ?_
    refine WP.region ?_
    refine OPS.val rfl rfl rfl (Ev.add rfl rfl (by unfold fits; omega)) ?_
    refine OPS.val rfl rfl rfl (Ev.mvI rfl) ?_
    refine OPS.nil ?_
    refine ⟨(by repeat (first | exact Agree.refl _ _ | exact Agree.mix _ _ _ | refine Agree.upd rfl ?_ | refine Agree.mix2 rfl ?_)), k - 1, by omega, j + 1, by omega, rfl, H, fun i hi hij => ?_⟩
    rcases Nat.lt_succ_iff_lt_or_eq.1 hij with h | rfl
    · exact hall i hi h
    · have : ¬ x = l[i] := by simpa using hc4
      exact fun h => this h.symm
  refine WP.exit ?_
  refine XB.hit ?_
  refine WP.seq ?_
  refine WP.region ?_
  refine OPS.val rfl rfl rfl (Ev.asI rfl) ?_
  refine OPS.nil ?_
  refine WP.ret ⟨_, rfl, ?_⟩
  refine ⟨-1, rfl, ⟨fun h => absurd h (by omega), fun h => ?_⟩, H.below⟩
  obtain ⟨i, hi, he⟩ := List.mem_iff_getElem.1 h
  exact absurd he (hall i hi (by simp at hc2; omega))

theorem slContains (A : Option Addr) (l : List Int) (cap : Nat) (x : Int) (w0 : World) (hz : IntsAt w0 A l) (hl : l.length ≤ maxLen) :
    Calls Try.prog 70 #[.slice A l.length cap, I x] w0 fun e w' => e = .returned (.bool (decide (x ∈ l))) ∧ Below w0.heap.size w0 w' := by
  have H := SH.refl w0
  refine Calls.ofWP Try.func70 rfl Try.results70 Try.ntmps70 rfl ?_
  refine WP.seq ?_
  refine WP.region ?_
  refine OPS.val rfl rfl rfl (Ev.asB rfl) ?_
  refine OPS.nil ?_
  refine WP.seq ?_
  refine WP.region ?_
  refine OPS.val rfl rfl rfl (Ev.mvS rfl) ?_
  refine OPS.val rfl rfl rfl (Ev.mvI rfl) ?_
  refine OPS.call (d := some 7) rfl rfl rfl (EvC.func (fun_run rfl)) (slIndex A l cap x w0 hz hl) ?_
  rintro _ w ⟨r, rfl, hr, hb⟩
  refine ⟨_, rfl, ?_⟩
  replace H := H.toBelow hb; clear hb
  refine OPS.val rfl rfl rfl (Ev.geq rfl rfl) ?_
  refine OPS.val rfl rfl rfl (Ev.asB rfl) ?_
  refine OPS.nil ?_
  refine WP.ret ⟨_, rfl, ?_⟩
  exact ⟨by rw [decide_eq_decide.2 hr.symm]; rfl, H.below⟩

/-- IndexFunc over needs, of a function without effects -/
structure Need where
  node : Int
  move : Int
instance : Inhabited Need := ⟨⟨0, 0⟩⟩
def needCells (x : Need) : List Value := [I x.node, I x.move]
theorem needCells_len (x : Need) : (needCells x).length = 2 := rfl
theorem slIndexFuncN (A : Option Addr) (l : List Need) (cap : Nat) (f : Nat) (caps : List Value) (p : Need → Bool) (w0 : World) (hz : RowsAt 2 needCells w0 A l) (hl : l.length ≤ maxLen) (hfun : funT f = true)
    (hf : ∀ x ∈ l, ∀ w, Below w0.heap.size w0 w → Calls Try.prog f ([Value.agg (needCells x).toArray] ++ caps).toArray w fun e w' => e = .returned (.bool (p x)) ∧ Below w.heap.size w w') :
    Calls Try.prog 69 #[.slice A l.length cap, .func (.func f) #[] caps.toArray] w0 fun e w' => ∃ r : Int, e = .returned (I r) ∧ (0 ≤ r ↔ l.any p = true) ∧ Below w0.heap.size w0 w' := by
  have H := SH.refl w0
  have hl' : l.length ≤ 9223372036854775807 := by unfold maxLen at hl; omega
  refine Calls.ofWP Try.func69 rfl Try.results69 Try.ntmps69 rfl ?_
  refine WP.seq ?_
  refine WP.region ?_
  refine OPS.val rfl rfl rfl (Ev.asI rfl) ?_
  refine OPS.nil ?_
  refine WP.seq ?_
  refine WP.seq ?_
  refine WP.region ?_
  refine OPS.val rfl rfl rfl (Ev.mvS rfl) ?_
  refine OPS.val rfl rfl rfl (Ev.len (el_run rfl) rfl) ?_
  refine OPS.val rfl rfl rfl (Ev.mvI rfl) ?_
  refine OPS.nil ?_
  refine WP.block ?_
  refine WP.loop [4, 5, 8, 9, 10, 11, 12, 13, 14, 15, 16, 17, 18] (fun k e w' => ∃ j : Nat, j + k = l.length ∧ e 8 = I j ∧ SH w0 [] w' [] ∧ ∀ i (h : i < l.length), i < j → p l[i] = false) (l.length) (⟨0, by omega, rfl, H, fun i _ hi => absurd hi (by omega)⟩) ?_
  clear H
  rintro k u w ⟨j, hk, h8, H, hall⟩
  refine WP.know (t := 8) h8 ?_
  refine WP.seq ?_
  refine WP.region ?_
  refine OPS.val rfl rfl rfl (Ev.lss rfl rfl) ?_
  refine OPS.nil ?_
  refine WP.seq ?_
  refine WP.cond rfl (fun hc2 => ?_) (fun hc2 => ?_)
  · have hlt : j < l.length := by simpa using hc2
    obtain ⟨b, o, rfl, hx⟩ := hz j hlt
    refine WP.skip ?_
    refine WP.seq ?_
    refine WP.block ?_
    refine WP.seq ?_
    refine WP.region ?_
    refine OPS.val rfl rfl rfl (Ev.mvI rfl) ?_
    refine OPS.val rfl rfl rfl (Ev.asI rfl) ?_
    refine OPS.nil ?_
    refine WP.seq ?_
    refine WP.region ?_
    refine OPS.val rfl rfl rfl (Ev.mvF rfl) ?_
    refine OPS.val rfl rfl rfl (Ev.mvS rfl) ?_
    refine OPS.val rfl rfl rfl (Ev.mvI rfl) ?_
    refine OPS.val rfl rfl rfl ((by exact Ev.indexAddr (el_run rfl) (size_run rfl) rfl rfl rfl (by omega))) ?_
    refine OPS.val rfl rfl rfl ((by (change Ev _ _ _ _ (Op.load 64 (Operand.tmp 14)) _; exact Ev.loadN (needCells l[j]) (agg_run rfl) (size_run rfl) rfl (cellsAt_sh H hx)))) ?_
    refine OPS.call (d := some 16) rfl rfl rfl (EvC.clos rfl (fun_run (by assumption))) (hf l[j] (List.getElem_mem hlt) w H.below) ?_
    rintro _ w ⟨rfl, hb⟩
    refine ⟨_, rfl, ?_⟩
    replace H := H.toBelow hb; clear hb
    refine OPS.nil ?_
    refine WP.cond rfl (fun hc4 => ?_) (fun hc4 => ?_)
    · refine WP.seq ?_
      refine WP.region ?_
      refine OPS.val rfl rfl rfl (Ev.mvI rfl) ?_
      refine OPS.val rfl rfl rfl (Ev.asI rfl) ?_
      refine OPS.nil ?_
      refine WP.ret ⟨_, rfl, ?_⟩
      exact ⟨j, rfl, ⟨fun _ => List.any_eq_true.2 ⟨l[j], List.getElem_mem hlt, hc4⟩, fun _ => by omega⟩, H.below⟩
    refine WP.skip ?_
    refine WP.region ?_
    refine OPS.val rfl rfl rfl (Ev.add rfl rfl (by unfold fits; omega)) ?_
    refine OPS.val rfl rfl rfl (Ev.mvI rfl) ?_
    refine OPS.nil ?_
    refine ⟨(by repeat (first | exact Agree.refl _ _ | exact Agree.mix _ _ _ | refine Agree.upd rfl ?_ | refine Agree.mix2 rfl ?_)), k - 1, by omega, j + 1, by omega, rfl, H, fun i hi hij => ?_⟩
    rcases Nat.lt_succ_iff_lt_or_eq.1 hij with h | rfl
    · exact hall i hi h
    · exact hc4
  refine WP.exit ?_
  refine XB.hit ?_
  refine WP.seq ?_
  refine WP.region ?_
  refine OPS.val rfl rfl rfl (Ev.asI rfl) ?_
  refine OPS.nil ?_
  refine WP.ret ⟨_, rfl, ?_⟩
  refine ⟨-1, rfl, ⟨fun h => absurd h (by omega), fun h => ?_⟩, H.below⟩
  obtain ⟨x, hx, he⟩ := List.any_eq_true.1 h
  obtain ⟨i, hi, rfl⟩ := List.mem_iff_getElem.1 hx
  rw [hall i hi (by simp at hc2; omega)] at he; cases he
theorem slContainsFuncN (A : Option Addr) (l : List Need) (cap : Nat) (f : Nat) (caps : List Value) (p : Need → Bool) (w0 : World) (hz : RowsAt 2 needCells w0 A l) (hl : l.length ≤ maxLen) (hfun : funT f = true)
    (hf : ∀ x ∈ l, ∀ w, Below w0.heap.size w0 w → Calls Try.prog f ([Value.agg (needCells x).toArray] ++ caps).toArray w fun e w' => e = .returned (.bool (p x)) ∧ Below w.heap.size w w') :
    Calls Try.prog 51 #[.slice A l.length cap, .func (.func f) #[] caps.toArray] w0 fun e w' => e = .returned (.bool (l.any p)) ∧ Below w0.heap.size w0 w' := by
  have H := SH.refl w0
  refine Calls.ofWP Try.func51 rfl Try.results51 Try.ntmps51 rfl ?_
  refine WP.seq ?_
  refine WP.region ?_
  refine OPS.val rfl rfl rfl (Ev.asB rfl) ?_
  refine OPS.nil ?_
  refine WP.seq ?_
  refine WP.region ?_
  refine OPS.val rfl rfl rfl (Ev.mvS rfl) ?_
  refine OPS.val rfl rfl rfl (Ev.mvF rfl) ?_
  refine OPS.call (d := some 7) rfl rfl rfl (EvC.func (fun_run rfl)) (slIndexFuncN A l cap f caps p w0 hz hl hfun hf) ?_
  rintro _ w ⟨r, rfl, hr, hb⟩
  refine ⟨_, rfl, ?_⟩
  replace H := H.toBelow hb; clear hb
  refine OPS.val rfl rfl rfl (Ev.geq rfl rfl) ?_
  refine OPS.val rfl rfl rfl (Ev.asB rfl) ?_
  refine OPS.nil ?_
  refine WP.ret ⟨_, rfl, ?_⟩
  have : l.any p = decide (0 ≤ r) := by
    cases h : l.any p with
    | true => exact (decide_eq_true (hr.2 h)).symm
    | false => exact (decide_eq_false fun q => by rw [hr.1 q] at h; cases h).symm
  exact ⟨by rw [this]; rfl, H.below⟩
theorem slIndexFuncI (A : Option Addr) (l : List Int) (cap : Nat) (f : Nat) (caps : List Value) (p : Int → Bool) (w0 : World) (hz : IntsAt w0 A l) (hl : l.length ≤ maxLen) (hfun : funT f = true)
    (hf : ∀ x ∈ l, ∀ w, Below w0.heap.size w0 w → Calls Try.prog f ([(I x : Value)] ++ caps).toArray w fun e w' => e = .returned (.bool (p x)) ∧ Below w.heap.size w w') :
    Calls Try.prog 60 #[.slice A l.length cap, .func (.func f) #[] caps.toArray] w0 fun e w' => ∃ r : Int, e = .returned (I r) ∧ (0 ≤ r ↔ l.any p = true) ∧ Below w0.heap.size w0 w' := by
  have H := SH.refl w0
  have hl' : l.length ≤ 9223372036854775807 := by unfold maxLen at hl; omega
  refine Calls.ofWP Try.func60 rfl Try.results60 Try.ntmps60 rfl ?_
  refine WP.seq ?_
  refine WP.region ?_
  refine OPS.val rfl rfl rfl (Ev.asI rfl) ?_
  refine OPS.nil ?_
  refine WP.seq ?_
  refine WP.seq ?_
  refine WP.region ?_
  refine OPS.val rfl rfl rfl (Ev.mvS rfl) ?_
  refine OPS.val rfl rfl rfl (Ev.len (el_run rfl) rfl) ?_
  refine OPS.val rfl rfl rfl (Ev.mvI rfl) ?_
  refine OPS.nil ?_
  refine WP.block ?_
  refine WP.loop [4, 5, 8, 9, 10, 11, 12, 13, 14, 15, 16, 17, 18] (fun k e w' => ∃ j : Nat, j + k = l.length ∧ e 8 = I j ∧ SH w0 [] w' [] ∧ ∀ i (h : i < l.length), i < j → p l[i] = false) (l.length) (⟨0, by omega, rfl, H, fun i _ hi => absurd hi (by omega)⟩) ?_
  clear H
  rintro k u w ⟨j, hk, h8, H, hall⟩
  refine WP.know (t := 8) h8 ?_
  refine WP.seq ?_
  refine WP.region ?_
  refine OPS.val rfl rfl rfl (Ev.lss rfl rfl) ?_
  refine OPS.nil ?_
  refine WP.seq ?_
  refine WP.cond rfl (fun hc2 => ?_) (fun hc2 => ?_)
  · have hlt : j < l.length := by simpa using hc2
    obtain ⟨b, o, rfl, hx⟩ := hz j hlt
    refine WP.skip ?_
    refine WP.seq ?_
    refine WP.block ?_
    refine WP.seq ?_
    refine WP.region ?_
    refine OPS.val rfl rfl rfl (Ev.mvI rfl) ?_
    refine OPS.val rfl rfl rfl (Ev.asI rfl) ?_
    refine OPS.nil ?_
    refine WP.seq ?_
    refine WP.region ?_
    refine OPS.val rfl rfl rfl (Ev.mvF rfl) ?_
    refine OPS.val rfl rfl rfl (Ev.mvS rfl) ?_
    refine OPS.val rfl rfl rfl (Ev.mvI rfl) ?_
    refine OPS.val rfl rfl rfl ((by exact Ev.indexAddr1 (el_run rfl) (size_run rfl) rfl rfl rfl (by omega))) ?_
    refine OPS.val rfl rfl rfl (Ev.load1 (agg_run rfl) rfl (by exact H.ld0 (by assumption))) ?_
    refine OPS.call (d := some 16) rfl rfl rfl (EvC.clos rfl (fun_run (by assumption))) (hf l[j] (List.getElem_mem hlt) w H.below) ?_
    rintro _ w ⟨rfl, hb⟩
    refine ⟨_, rfl, ?_⟩
    replace H := H.toBelow hb; clear hb
    refine OPS.nil ?_
    refine WP.cond rfl (fun hc4 => ?_) (fun hc4 => ?_)
    · refine WP.seq ?_
      refine WP.region ?_
      refine OPS.val rfl rfl rfl (Ev.mvI rfl) ?_
      refine OPS.val rfl rfl rfl (Ev.asI rfl) ?_
      refine OPS.nil ?_
      refine WP.ret ⟨_, rfl, ?_⟩
      exact ⟨j, rfl, ⟨fun _ => List.any_eq_true.2 ⟨l[j], List.getElem_mem hlt, hc4⟩, fun _ => by omega⟩, H.below⟩
    refine WP.skip ?_
    refine WP.region ?_
    refine OPS.val rfl rfl rfl (Ev.add rfl rfl (by unfold fits; omega)) ?_
    refine OPS.val rfl rfl rfl (Ev.mvI rfl) ?_
    refine OPS.nil ?_
    refine ⟨(by repeat (first | exact Agree.refl _ _ | exact Agree.mix _ _ _ | refine Agree.upd rfl ?_ | refine Agree.mix2 rfl ?_)), k - 1, by omega, j + 1, by omega, rfl, H, fun i hi hij => ?_⟩
    rcases Nat.lt_succ_iff_lt_or_eq.1 hij with h | rfl
    · exact hall i hi h
    · exact hc4
  refine WP.exit ?_
  refine XB.hit ?_
  refine WP.seq ?_
  refine WP.region ?_
  refine OPS.val rfl rfl rfl (Ev.asI rfl) ?_
  refine OPS.nil ?_
  refine WP.ret ⟨_, rfl, ?_⟩
  refine ⟨-1, rfl, ⟨fun h => absurd h (by omega), fun h => ?_⟩, H.below⟩
  obtain ⟨x, hx, he⟩ := List.any_eq_true.1 h
  obtain ⟨i, hi, rfl⟩ := List.mem_iff_getElem.1 hx
  rw [hall i hi (by simp at hc2; omega)] at he; cases he
theorem slContainsFuncI (A : Option Addr) (l : List Int) (cap : Nat) (f : Nat) (caps : List Value) (p : Int → Bool) (w0 : World) (hz : IntsAt w0 A l) (hl : l.length ≤ maxLen) (hfun : funT f = true)
    (hf : ∀ x ∈ l, ∀ w, Below w0.heap.size w0 w → Calls Try.prog f ([(I x : Value)] ++ caps).toArray w fun e w' => e = .returned (.bool (p x)) ∧ Below w.heap.size w w') :
    Calls Try.prog 36 #[.slice A l.length cap, .func (.func f) #[] caps.toArray] w0 fun e w' => e = .returned (.bool (l.any p)) ∧ Below w0.heap.size w0 w' := by
  have H := SH.refl w0
  refine Calls.ofWP Try.func36 rfl Try.results36 Try.ntmps36 rfl ?_
  refine WP.seq ?_
  refine WP.region ?_
  refine OPS.val rfl rfl rfl (Ev.asB rfl) ?_
  refine OPS.nil ?_
  refine WP.seq ?_
  refine WP.region ?_
  refine OPS.val rfl rfl rfl (Ev.mvS rfl) ?_
  refine OPS.val rfl rfl rfl (Ev.mvF rfl) ?_
  refine OPS.call (d := some 7) rfl rfl rfl (EvC.func (fun_run rfl)) (slIndexFuncI A l cap f caps p w0 hz hl hfun hf) ?_
  rintro _ w ⟨r, rfl, hr, hb⟩
  refine ⟨_, rfl, ?_⟩
  replace H := H.toBelow hb; clear hb
  refine OPS.val rfl rfl rfl (Ev.geq rfl rfl) ?_
  refine OPS.val rfl rfl rfl (Ev.asB rfl) ?_
  refine OPS.nil ?_
  refine WP.ret ⟨_, rfl, ?_⟩
  have : l.any p = decide (0 ≤ r) := by
    cases h : l.any p with
    | true => exact (decide_eq_true (hr.2 h)).symm
    | false => exact (decide_eq_false fun q => by rw [hr.1 q] at h; cases h).symm
  exact ⟨by rw [this]; rfl, H.below⟩

theorem cmpNaN (n : Int) (w0 : World) : Calls Try.prog 67 #[I n] w0 fun e w' => e = .returned (.bool false) ∧ Below w0.heap.size w0 w' := by
  have H := SH.refl w0
  refine Calls.ofWP Try.func67 rfl Try.results67 Try.ntmps67 rfl ?_
  refine WP.seq ?_
  refine WP.region ?_
  refine OPS.val rfl rfl rfl (Ev.asB rfl) ?_
  refine OPS.nil ?_
  refine WP.seq ?_
  refine WP.region ?_
  refine OPS.val rfl rfl rfl (Ev.mvI rfl) ?_
  refine OPS.val rfl rfl rfl (Ev.mvI rfl) ?_
  refine OPS.val rfl rfl rfl (Ev.neq rfl rfl) ?_
  refine OPS.val rfl rfl rfl (Ev.asB rfl) ?_
  refine OPS.nil ?_
  refine WP.ret ⟨_, rfl, ?_⟩
  exact ⟨congrArg (fun b => Ending.returned (Bo b)) (show (!decide (n = n)) = false by simp), H.below⟩
theorem cmpLess (a b : Int) (w0 : World) : Calls Try.prog 84 #[I a, I b] w0 fun e w' => e = .returned (.bool (decide (a < b))) ∧ Below w0.heap.size w0 w' := by
  have H := SH.refl w0
  refine Calls.ofWP Try.func84 rfl Try.results84 Try.ntmps84 rfl ?_
  refine WP.seq ?_
  refine WP.region ?_
  refine OPS.val rfl rfl rfl (Ev.asB rfl) ?_
  refine OPS.nil ?_
  refine WP.seq ?_
  refine WP.region ?_
  refine OPS.val rfl rfl rfl (Ev.mvI rfl) ?_
  refine OPS.call (d := some 6) rfl rfl rfl (EvC.func (fun_run rfl)) (cmpNaN a w0) ?_
  rintro _ w ⟨rfl, hb⟩
  refine ⟨_, rfl, ?_⟩
  replace H := H.toBelow hb; clear hb
  refine OPS.val rfl rfl rfl (Ev.mvB rfl) ?_
  refine OPS.gval rfl rfl rfl rfl rfl (fun hg => Ev.mvI (by rfl)) ?_
  refine OPS.gcall0 (f := 67) (cmpNaN b w) (fun _ _ h => h) rfl rfl rfl rfl rfl (fun hg => EvC.conv (EvC.func (fun_run rfl)) (l1 (by exact gvE hg rfl))) ?_
  intro w hbc; replace H := H.toBelow hbc
  refine OPS.gval rfl rfl rfl rfl rfl (fun hg => Ev.not (by exact gvE hg rfl)) ?_
  refine OPS.val rfl rfl rfl ((by exact Ev.pickAnd rfl rfl rfl)) ?_
  refine OPS.val rfl rfl rfl (Ev.mvB rfl) ?_
  refine OPS.gval rfl rfl rfl rfl rfl (fun hg => Ev.mvI (by rfl)) ?_
  refine OPS.gval rfl rfl rfl rfl rfl (fun hg => Ev.mvI (by rfl)) ?_
  refine OPS.gval rfl rfl rfl rfl rfl (fun hg => Ev.lss (by exact gvE hg rfl) (by exact gvE hg rfl)) ?_
  refine OPS.val rfl rfl rfl ((by exact Ev.pickOr rfl rfl rfl)) ?_
  refine OPS.val rfl rfl rfl (Ev.asB rfl) ?_
  refine OPS.nil ?_
  refine WP.ret ⟨_, rfl, ?_⟩
  exact ⟨congrArg (fun b => Ending.returned (Bo b)) (show _ = decide (a < b) by simp), H.below⟩
def sortedB (l : List Int) : Bool := (List.range (l.length - 1)).all fun i => decide (l.getD i 0 ≤ l.getD (i + 1) 0)
end Go.Proofs.Ytfddebpeiilohaa
