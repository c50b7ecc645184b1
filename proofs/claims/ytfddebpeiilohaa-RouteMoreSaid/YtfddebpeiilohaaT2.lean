/-
  Walk: spread (forwards).
-/
import Derived.Test.YtfddebpeiilohaaT1
set_option linter.all false
namespace Go.Proofs.Ytfddebpeiilohaa
open Go Go.W Go.RowKit

/-- all that spread has -/
structure SpW (l : List Edg) (n s : Nat) (K : Nat → Bool) (D : Nat → Int) (x : Nat) (Pr : Nat → Prop) (found : List Bool) (best : List Leg) (h : List Ent) (p : Int) (A : Option Addr) (cap : Nat) (Lo : List Blk) : Prop where
  inv : SpI l n s K D x Pr found best h
  own : QOwn A cap h Lo
  heap : HeapOk entLt h
  p0 : 0 ≤ p ∧ p ≤ 1000 * (1 + (n : Int) - openN found)
  hp : (h.length : Int) ≤ p
theorem cnt_arith0 {a b k x y z m : Nat} (hl3 : x ≤ y + m) (hm : m ≤ 512) (h1 : a + 2000 ≤ b) (h2 : y + 1 = z) (hk : b + z ≤ k + 1) : a + x ≤ k := by
  have h4 : x ≤ y + 512 := by omega
  have h5 : a + 512 ≤ b := by omega
  omega
theorem cnt_arith {a b k x y z m : Nat} (hl3 : x ≤ y + m) (hm : m ≤ 512) (h1 : a < b) (h2 : y + 1 = z) (hk : b * 2000 + z ≤ k + 1) : a * 2000 + x ≤ k :=
  cnt_arith0 hl3 hm (by rw [← Nat.succ_mul]; exact Nat.mul_le_mul_right _ h1) h2 hk

set_option maxHeartbeats 1000000 in
theorem roadSpread (n s : Nat) (A : Option Addr) (l : List Edg) (cap : Nat) (K : Nat → Bool) (D : Nat → Int) (w0 : World) (hok : RoadOk n l) (hs : s < n) (hR : RD l n s K D) (hz : EdgsAt w0 A l) :
    Calls Try.prog 95 #[.agg #[I n, .slice A l.length cap], I s, .func (.func 96) #[] #[]] w0 fun e w' => ∃ (gB gF : Nat) (best : List Leg) (found : List Bool), e = .returned (.tuple #[.slice (some ⟨gB, 0, none⟩) n n, .slice (some ⟨gF, 0, none⟩) n n]) ∧ best.length = n ∧ found.length = n ∧
      (∀ v, v < n → fnd found v = K v ∧ (K v = true → bst best v = D v)) ∧ SH w0 [] w' [⟨gB, 143, best.flatMap legCells⟩, ⟨gF, 4, found.map Bo⟩] := by
  have H := SH.refl w0
  have hn2 := hok.n2
  have hll := hok.len
  refine Calls.ofWP Try.func95 rfl Try.results95 Try.ntmps95 rfl ?_
  refine WP.seq ?_
  refine WP.region ?_
  refine OPS.box rfl rfl rfl rfl (cA rfl) H ?_
  clear H; intro g3 w H
  refine OPS.val rfl rfl rfl (Ev.asS rfl) ?_
  refine OPS.val rfl rfl rfl (Ev.asS rfl) ?_
  refine OPS.nil ?_
  refine WP.seq ?_
  refine WP.rheldC [8, 9, 17, 18, 19, 20, 21, 22] (fun u w' => ∃ gB gF : Nat, u 8 = .slice (some ⟨gB, 0, none⟩) n n ∧ u 9 = .slice (some ⟨gF, 0, none⟩) n n ∧ SH w0 [] w' [⟨g3, 24, [I n, .slice A l.length cap]⟩, ⟨gB, 143, mkL n (legCells default)⟩, ⟨gF, 4, mkL n [Bo false]⟩]) mixed H ?_ ?_
  · clear H; intro w hbw1 H
    refine OPH.take 0 rfl rfl rfl rfl (by kernel_rfl) (by kernel_rfl) (by kernel_rfl) rfl (by exact H) (fun w H => Ev.fieldAddr (fld_run rfl) rfl) ?_
    refine OPH.take 1 rfl rfl rfl rfl (by kernel_rfl) (by kernel_rfl) (by kernel_rfl) rfl (by exact H) (fun w H => Ev.load1 (agg_run rfl) rfl (by exact H.ldL 0 rfl _ rfl)) ?_
    refine OPH.take 3 rfl rfl rfl rfl (by kernel_rfl) (by kernel_rfl) (by kernel_rfl) rfl (by exact H) (fun w H => Ev.fieldAddr (fld_run rfl) rfl) ?_
    refine OPH.take 4 rfl rfl rfl rfl (by kernel_rfl) (by kernel_rfl) (by kernel_rfl) rfl (by exact H) (fun w H => Ev.load1 (agg_run rfl) rfl (by exact H.ldL 0 rfl _ rfl)) ?_
    refine OPH.all [2, 5] (by kernel_rfl) (by simp) rfl ?_
    intro i hi; simp only [List.mem_cons, List.not_mem_nil, or_false] at hi
    rcases hi with rfl | rfl
    · refine ⟨_, rfl, ?_⟩
      refine OPS.makeSlice rfl rfl rfl rfl (sl_run rfl) rfl rfl rfl (by omega) (by omega) H ?_
      clear H; intro g19 w H
      refine OPS.nil ?_
      refine ⟨(by exact H.drop (List.sublist_cons_self _ _)), ?_⟩
      refine OPH.take 6 rfl rfl rfl rfl (by kernel_rfl) (by kernel_rfl) (by kernel_rfl) rfl (by exact H.drop (List.sublist_cons_self _ _)) (fun w H => Ev.asS rfl) ?_
      refine OPH.all [5] (by kernel_rfl) (by simp) rfl ?_
      intro i hi; simp only [List.mem_cons, List.not_mem_nil, or_false] at hi
      rcases hi with rfl
      · refine ⟨_, rfl, ?_⟩
        refine OPS.makeSlice rfl rfl rfl rfl (sl_run rfl) rfl rfl rfl (by omega) (by omega) H ?_
        clear H; intro g22 w H
        refine OPS.nil ?_
        refine ⟨(by exact H.drop ((List.sublist_cons_self _ _).trans (List.sublist_cons_self _ _))), ?_⟩
        refine OPH.take 7 rfl rfl rfl rfl (by kernel_rfl) (by kernel_rfl) (by kernel_rfl) rfl (by exact H.drop ((List.sublist_cons_self _ _).trans (List.sublist_cons_self _ _))) (fun w H => Ev.asS rfl) ?_
        refine OPH.done (by kernel_rfl) ?_
        refine ⟨(by repeat (first | exact Agree.refl _ _ | exact Agree.mix _ _ _ | refine Agree.upd rfl ?_ | refine Agree.mix2 rfl ?_)), g19, g22, rfl, rfl, ?_⟩; exact H.reidx [2, 1, 0] (by decide) rfl
    · refine ⟨_, rfl, ?_⟩
      refine OPS.makeSlice rfl rfl rfl rfl (sl_run rfl) rfl rfl rfl (by omega) (by omega) H ?_
      clear H; intro g22 w H
      refine OPS.nil ?_
      refine ⟨(by exact H.drop (List.sublist_cons_self _ _)), ?_⟩
      refine OPH.all [2] (by kernel_rfl) (by simp) rfl ?_
      intro i hi; simp only [List.mem_cons, List.not_mem_nil, or_false] at hi
      rcases hi with rfl
      · refine ⟨_, rfl, ?_⟩
        refine OPS.makeSlice rfl rfl rfl rfl (sl_run rfl) rfl rfl rfl (by omega) (by omega) H ?_
        clear H; intro g19 w H
        refine OPS.nil ?_
        refine ⟨(by exact H.drop ((List.sublist_cons_self _ _).trans (List.sublist_cons_self _ _))), ?_⟩
        refine OPH.take 6 rfl rfl rfl rfl (by kernel_rfl) (by kernel_rfl) (by kernel_rfl) rfl (by exact H.drop ((List.sublist_cons_self _ _).trans (List.sublist_cons_self _ _))) (fun w H => Ev.asS rfl) ?_
        refine OPH.take 7 rfl rfl rfl rfl (by kernel_rfl) (by kernel_rfl) (by kernel_rfl) rfl (by exact H.drop ((List.sublist_cons_self _ _).trans (List.sublist_cons_self _ _))) (fun w H => Ev.asS rfl) ?_
        refine OPH.done (by kernel_rfl) ?_
        refine ⟨(by repeat (first | exact Agree.refl _ _ | exact Agree.mix _ _ _ | refine Agree.upd rfl ?_ | refine Agree.mix2 rfl ?_)), g19, g22, rfl, rfl, ?_⟩; exact H.reidx [2, 0, 1] (by decide) rfl
  clear H
  rintro u w ⟨gB, gF, h8, h9, H⟩
  refine WP.know (t := 8) h8 (WP.know (t := 9) h9 ?_)
  rw [mkL_rows, mkL_ones (enc1 := Bo)] at H
  refine WP.seq ?_
  refine WP.region ?_
  refine OPS.call (d := some 23) rfl rfl rfl (EvC.func (fun_run rfl)) (qNew w) ?_
  rintro _ w ⟨gq, rfl, Hc⟩
  refine ⟨_, rfl, ?_⟩
  replace H := SH.call (L1 := [_, _, _]) (Lv := []) H Hc
  clear Hc
  refine OPS.val rfl rfl rfl (Ev.asP rfl) ?_
  refine OPS.nil ?_
  refine WP.seq ?_
  refine WP.region ?_
  refine OPS.val rfl rfl rfl (Ev.mvP rfl) ?_
  refine OPS.val rfl rfl rfl (Ev.mvI rfl) ?_
  refine OPS.val rfl rfl rfl (Ev.build (bld_150_0 rfl)) ?_
  refine OPS.call (d := some 27) rfl rfl rfl (EvC.func (fun_run rfl)) (qPush gq 0 none 0 s 0 0 [] [] w (qLv gq none 0 [] 0 [] |>.map (·.g)) OwnS.nil HeapOk.nil (by simp) (by omega) (H.restart (List.sublist_append_right _ _))) ?_
  rintro _ w ⟨rfl, Aq, capq, h1, Lo, hpm, hh1, hO1, Hc⟩
  refine ⟨_, rfl, ?_⟩
  obtain rfl : h1 = [⟨s, 0, 0, 0⟩] := List.perm_singleton.1 hpm
  replace H := SH.call (Lv := qLv gq none 0 [] 0 []) H Hc
  clear Hc
  refine OPS.nil ?_
  refine WP.block ?_
  refine WP.loop [6, 7, 11, 12, 14, 15, 16, 28, 29, 30, 31, 32, 33, 34, 35, 36, 37, 38, 39, 40, 41, 42, 43, 44, 45, 46, 47, 48, 49, 50, 51, 52, 53, 54, 55, 56, 57, 58, 59, 60, 61, 62, 63, 64, 65, 66, 67, 68, 69, 70, 71, 72, 73, 74, 75, 76, 77, 78, 79, 80, 81, 82, 83, 84, 85, 86, 87, 88, 89, 90, 91] (fun k _ w' => ∃ (found : List Bool) (best : List Leg) (h : List Ent) (p : Int) (Aq : Option Addr) (capq : Nat) (Lo : List Blk) (x : Nat), SH w0 [] w' ([⟨g3, 24, [I n, .slice A l.length cap]⟩, ⟨gB, 143, best.flatMap legCells⟩, ⟨gF, 4, found.map Bo⟩] ++ qLv gq Aq capq h p Lo) ∧ SpW l n s K D x (fun _ => True) found best h p Aq capq Lo ∧ openN found * 2000 + h.length ≤ k) (n * 2000 + 1) (⟨List.replicate n false, List.replicate n default, [⟨s, 0, 0, 0⟩], 0 + 1, Aq, capq, Lo, s, H, ⟨SpI.init hR hs, hO1, hh1, by simp [openN], by simp⟩, by simp [openN]⟩) ?_
  clear H hO1 hh1
  rintro k u w ⟨found, best, h, p, Aq, capq, Lo, x, H, hW, hk⟩
  have hfl := hW.inv.flen
  have hbl := hW.inv.blen
  have hon := openN_len found
  have hp0 := hW.p0
  have hhp := hW.hp
  have hhl : h.length ≤ 1000000 := by omega
  refine WP.block ?_
  refine WP.seq ?_
  refine WP.region ?_
  refine OPS.val rfl rfl rfl (Ev.mvP rfl) ?_
  refine OPS.call (d := some 30) rfl rfl rfl (EvC.func (fun_run rfl)) (qPop2 gq capq Aq p h Lo w (qLv gq Aq capq h p Lo |>.map (·.g)) hW.own hW.heap hhl (H.restart (List.sublist_append_right _ _))) ?_
  rintro _ w ⟨y, ok, h', Lo', rfl, hno, hyes, hh', hO', Hc⟩
  refine ⟨_, rfl, ?_⟩
  replace H := SH.call (Lv := qLv gq Aq capq h p Lo) (L1 := [_, _, _]) H Hc
  clear Hc
  refine OPS.val rfl rfl rfl (Ev.mvT rfl) ?_
  refine OPS.val rfl rfl rfl (Ev.extract rfl rfl) ?_
  refine OPS.val rfl rfl rfl (Ev.extract rfl rfl) ?_
  refine OPS.alloc rfl rfl rfl rfl (zero_run rfl) rfl H ?_
  clear H; intro g11 w H
  refine OPS.store 0 _ rfl rfl rfl (size_run rfl) rfl (cA rfl) rfl rfl H rfl (by simp) ?_
  clear H; intro w H; try simp only [List.set_cons_zero, List.set_cons_succ, putL, Nat.zero_add] at H
  refine OPS.val rfl rfl rfl (Ev.asB rfl) ?_
  refine OPS.nil ?_
  refine WP.seq ?_
  refine WP.seq ?_
  refine WP.region ?_
  refine OPS.val rfl rfl rfl (Ev.mvB rfl) ?_
  refine OPS.val rfl rfl rfl (Ev.not rfl) ?_
  refine OPS.nil ?_
  refine WP.cond rfl (fun hc5 => ?_) (fun hc5 => ?_)
  · have hok2 : ok = false := by simpa using hc5
    obtain ⟨rfl, rfl⟩ := hno hok2
    refine WP.seq ?_
    refine WP.region ?_
    refine OPS.val rfl rfl rfl (Ev.mvS rfl) ?_
    refine OPS.val rfl rfl rfl (Ev.mvS rfl) ?_
    refine OPS.val rfl rfl rfl (Ev.asS rfl) ?_
    refine OPS.val rfl rfl rfl (Ev.asS rfl) ?_
    refine OPS.nil ?_
    refine WP.ret ⟨_, rfl, ?_⟩
    exact ⟨gB, gF, best, found, rfl, hbl, hfl, hW.inv.done hok hR, H.reidx [2, 3] (by decide) rfl⟩
  have hok2 : ok = true := by simpa using hc5
  obtain ⟨hpm2, hmin⟩ := hyes hok2
  obtain ⟨⟨v, hvn, hyv, hkv, hle⟩, _⟩ := hW.inv.ent y (hpm2.subset (List.mem_cons_self ..))
  have hlen2 := hpm2.length_eq
  simp only [List.length_cons] at hlen2
  obtain ⟨yn, ys, ye, yk⟩ := y
  simp only at hyv hle hmin
  subst hyv
  simp only [labCells, putL, List.set_cons_zero, List.set_cons_succ, List.cons_append, List.nil_append] at H
  have hdv : fnd found v = found[v]'(by omega) := by simp [fnd, hfl, hvn]
  refine WP.skip ?_
  refine WP.seq ?_
  refine WP.seq ?_
  refine WP.region ?_
  obtain ⟨_, _, e1, hdc⟩ := onesOwn H 3 rfl v (by omega)
  cases e1
  refine OPS.val rfl rfl rfl (Ev.mvS rfl) ?_
  refine OPS.val rfl rfl rfl (Ev.fieldAddr (fld_run rfl) rfl) ?_
  refine OPS.val rfl rfl rfl (Ev.load1 (agg_run rfl) rfl (by exact H.ldL 0 rfl _ rfl)) ?_
  refine OPS.val rfl rfl rfl ((by exact Ev.indexAddr1 (el_run rfl) (size_run rfl) rfl rfl rfl (by omega))) ?_
  refine OPS.val rfl rfl rfl (Ev.load1 (agg_run rfl) rfl (by assumption)) ?_
  refine OPS.nil ?_
  refine WP.cond rfl (fun hc7 => ?_) (fun hc7 => ?_)
  · have hnext : ∃ g', g' < k ∧ ∃ (found : List Bool) (best : List Leg) (h : List Ent) (p : Int) (Aq : Option Addr) (capq : Nat) (Lo : List Blk) (x : Nat), SH w0 [] w ([⟨g3, 24, [I n, .slice A l.length cap]⟩, ⟨gB, 143, best.flatMap legCells⟩, ⟨gF, 4, found.map Bo⟩] ++ qLv gq Aq capq h p Lo) ∧ SpW l n s K D x (fun _ => True) found best h p Aq capq Lo ∧ openN found * 2000 + h.length ≤ g' :=
      ⟨openN found * 2000 + h'.length, by omega, found, best, h', p, Aq, capq, Lo', x, H.drop (List.sublist_cons_self _ _), ⟨hW.inv.stale hpm2 rfl (by rw [hdv]; exact hc7), hO', hh', hp0, by omega⟩, Nat.le_refl _⟩
    refine WP.exit ?_
    refine XB.hit ?_
    exact ⟨(by repeat (first | exact Agree.refl _ _ | exact Agree.mix _ _ _ | refine Agree.upd rfl ?_ | refine Agree.mix2 rfl ?_)), hnext⟩
  obtain ⟨hkv2, hyd, hye, hys, hI2⟩ := hW.inv.fresh hok hR hpm2 hmin rfl hvn (by rw [hdv]; exact hc7)
  simp only at hyd hye hys hI2
  have hopen := openN_set found v (by omega) (by show fnd found v = false; rw [hdv]; exact hc7)
  have hDn := hR.nn v hvn hkv2
  have hon2 := openN_len (found.set v true)
  rw [List.length_set] at hon2
  refine WP.skip ?_
  refine WP.seq ?_
  have Hf := H
  replace H := H.reidx (L' := [⟨g11, 150, [I v, I ys, I ye]⟩, ⟨g3, 24, [I n, .slice A l.length cap]⟩]) [0, 1] (by decide) rfl
  have hpu1 : putL (best.flatMap legCells) (0 + v * 2) (legCells ⟨ys, ye⟩) = (best.set v ⟨ys, ye⟩).flatMap legCells := by rw [Nat.zero_add]; exact putL_rows legCells_len best v _ (by omega)
  have hpu2 : putL (found.map Bo) (0 + v) [Bo true] = (found.set v true).map Bo := by rw [Nat.zero_add, putL_ones]
  refine WP.rheldC [42, 43, 44, 45, 46, 47, 48, 49, 50, 51] (fun _ w' => SH w0 [] w' ([⟨g11, 150, [I v, I ys, I ye]⟩, ⟨g3, 24, [I n, .slice A l.length cap]⟩, ⟨gB, 143, (best.set v ⟨ys, ye⟩).flatMap legCells⟩, ⟨gF, 4, (found.set v true).map Bo⟩] ++ qLv gq Aq capq h' p Lo')) mixed H ?_ ?_
  · clear H; intro w hbw8 H
    refine OPH.take 0 rfl rfl rfl rfl (by kernel_rfl) (by kernel_rfl) (by kernel_rfl) rfl (by exact H) (fun w H => Ev.mvS rfl) ?_
    refine OPH.take 1 rfl rfl rfl rfl (by kernel_rfl) (by kernel_rfl) (by kernel_rfl) rfl (by exact H) (fun w H => Ev.fieldAddr (fld_run rfl) rfl) ?_
    refine OPH.take 2 rfl rfl rfl rfl (by kernel_rfl) (by kernel_rfl) (by kernel_rfl) rfl (by exact H) (fun w H => Ev.load1 (agg_run rfl) rfl (by exact H.ldL 0 rfl _ rfl)) ?_
    refine OPH.take 3 rfl rfl rfl rfl (by kernel_rfl) (by kernel_rfl) (by kernel_rfl) rfl (by exact H) (fun w H => Ev.mvS rfl) ?_
    refine OPH.take 4 rfl rfl rfl rfl (by kernel_rfl) (by kernel_rfl) (by kernel_rfl) rfl (by exact H) (fun w H => Ev.fieldAddr (fld_run rfl) rfl) ?_
    refine OPH.take 5 rfl rfl rfl rfl (by kernel_rfl) (by kernel_rfl) (by kernel_rfl) rfl (by exact H) (fun w H => Ev.load1 (agg_run rfl) rfl (by exact H.ldL 0 rfl _ rfl)) ?_
    refine OPH.take 6 rfl rfl rfl rfl (by kernel_rfl) (by kernel_rfl) (by kernel_rfl) rfl (by exact H) (fun w H => Ev.fieldAddr (fld_run rfl) rfl) ?_
    refine OPH.take 7 rfl rfl rfl rfl (by kernel_rfl) (by kernel_rfl) (by kernel_rfl) rfl (by exact H) (fun w H => (by exact Ev.loadN [_, _] (agg_run rfl) (size_run rfl) rfl ⟨H.ldL 0 rfl _ rfl, H.ldL 0 rfl _ rfl, trivial⟩)) ?_
    refine OPH.take 8 rfl rfl rfl rfl (by kernel_rfl) (by kernel_rfl) (by kernel_rfl) rfl (by exact H) (fun w H => (by exact Ev.indexAddr (el_run rfl) (size_run rfl) rfl rfl rfl (by omega))) ?_
    refine OPH.all [9] (by kernel_rfl) (by simp) rfl ?_
    intro i hi; simp only [List.mem_cons, List.not_mem_nil, or_false] at hi
    rcases hi with rfl
    · refine ⟨_, rfl, ?_⟩
      try replace Hf := Hf.toBelow hbw8
      refine OPS.store (vs := legCells ⟨ys, ye⟩) 2 _ rfl rfl rfl (size_run rfl) rfl (cA rfl) rfl rfl Hf rfl (by simp only [rows_length legCells_len]; omega) ?_
      clear H Hf; intro w Hf
      simp only [List.set_cons_zero, List.set_cons_succ] at Hf
      rw [hpu1] at Hf
      have H := Hf.reidx (L' := [⟨g11, 150, [I v, I ys, I ye]⟩, ⟨g3, 24, [I n, .slice A l.length cap]⟩]) [0, 1] (by decide) rfl
      refine OPS.nil ?_
      refine ⟨(by exact H), ?_⟩
      refine OPH.take 10 rfl rfl rfl rfl (by kernel_rfl) (by kernel_rfl) (by kernel_rfl) rfl (by exact H) (fun w H => (by exact Ev.indexAddr1 (el_run rfl) (size_run rfl) rfl rfl rfl (by omega))) ?_
      refine OPH.all [11] (by kernel_rfl) (by simp) rfl ?_
      intro i hi; simp only [List.mem_cons, List.not_mem_nil, or_false] at hi
      rcases hi with rfl
      · refine ⟨_, rfl, ?_⟩
        try replace Hf := Hf.toBelow hbw8
        refine OPS.store (vs := [Bo true]) 3 _ rfl rfl rfl (size_run rfl) rfl (cB rfl) rfl rfl Hf rfl (by simp only [List.length_map]; omega) ?_
        clear H Hf; intro w Hf
        simp only [List.set_cons_zero, List.set_cons_succ] at Hf
        rw [hpu2] at Hf
        have H := Hf.reidx (L' := [⟨g11, 150, [I v, I ys, I ye]⟩, ⟨g3, 24, [I n, .slice A l.length cap]⟩]) [0, 1] (by decide) rfl
        refine OPS.nil ?_
        refine ⟨(by exact H), ?_⟩
        refine OPH.done (by kernel_rfl) ?_
        exact ⟨(by repeat (first | exact Agree.refl _ _ | exact Agree.mix _ _ _ | refine Agree.upd rfl ?_ | refine Agree.mix2 rfl ?_)), Hf⟩
  clear H
  rintro u2 w H
  refine WP.seq ?_
  refine WP.region ?_
  refine OPS.val rfl rfl rfl (Ev.fieldAddr (fld_run rfl) rfl) ?_
  refine OPS.val rfl rfl rfl (Ev.load1 (agg_run rfl) rfl (by exact H.ldL 1 rfl _ rfl)) ?_
  refine OPS.val rfl rfl rfl (Ev.len (el_run rfl) rfl) ?_
  refine OPS.val rfl rfl rfl (Ev.mvI rfl) ?_
  refine OPS.nil ?_
  refine WP.block ?_
  refine WP.loop [14, 15, 16, 55, 56, 57, 58, 59, 60, 61, 62, 63, 64, 65, 66, 67, 68, 69, 70, 71, 72, 73, 74, 75, 76, 77, 78, 79, 80, 81, 82, 83, 84, 85, 86, 87, 88, 89, 90, 91] (fun k2 e w' => ∃ (j : Nat) (h2 : List Ent) (p2 : Int) (Aq2 : Option Addr) (capq2 : Nat) (Lo2 : List Blk), j + k2 = l.length ∧ e 55 = I j ∧ SH w0 [] w' ([⟨g11, 150, [I v, I ys, I ye]⟩, ⟨g3, 24, [I n, .slice A l.length cap]⟩, ⟨gB, 143, (best.set v ⟨ys, ye⟩).flatMap legCells⟩, ⟨gF, 4, (found.set v true).map Bo⟩] ++ qLv gq Aq2 capq2 h2 p2 Lo2) ∧ SpI l n s K D v (fun i => i < j) (found.set v true) (best.set v ⟨ys, ye⟩) h2 ∧ QOwn Aq2 capq2 h2 Lo2 ∧ HeapOk entLt h2 ∧ 0 ≤ p2 ∧ p2 ≤ p + j ∧ (h2.length : Int) ≤ p2 ∧ h2.length ≤ h'.length + j) (l.length) (⟨0, h', p, Aq, capq, Lo', by omega, rfl, H, hI2.mono fun i _ q => absurd q (by omega), hO', hh', hp0.1, by omega, by omega, by omega⟩) ?_
  clear H hO' hh' hI2
  rintro k2 u2 w ⟨j, h2, p2, Aq2, capq2, Lo2, hk2, h55, H, hI2, hO2, hh2, hp2, hp3, hhp2, hhl2⟩
  refine WP.know (t := 55) h55 ?_
  unfold qLv qCells at H
  refine WP.seq ?_
  refine WP.region ?_
  refine OPS.val rfl rfl rfl (Ev.lss rfl rfl) ?_
  refine OPS.nil ?_
  refine WP.seq ?_
  refine WP.cond rfl (fun hc10 => ?_) (fun hc10 => ?_)
  · have hlt : j < l.length := by simpa using hc10
    obtain ⟨b, o, rfl, hc⟩ := hz j hlt
    have hc' := cellsAt_sh H hc
    have hnd := hok.nodes l[j] (List.getElem_mem hlt)
    have hsc := hok.secs l[j] (List.getElem_mem hlt)
    obtain ⟨a, hfa⟩ := Int.eq_ofNat_of_zero_le hnd.1.1
    obtain ⟨b', htb⟩ := Int.eq_ofNat_of_zero_le hnd.2.1
    have ham : a < n := by omega
    have hbm : b' < n := by omega
    have hEd : EdgeAt l j a b' l[j].secs := ⟨hlt, hfa, htb, rfl⟩
    have hfl2 : (found.set v true).length = n := by simp [hfl]
    have hfb : fnd (found.set v true) b' = (found.set v true)[b']'(by omega) := by simp [fnd, hfl, hbm]
    have hfv : fnd (found.set v true) v = true := by rw [fnd_set (by omega), if_pos rfl]
    refine WP.skip ?_
    refine WP.seq ?_
    refine WP.block ?_
    refine WP.seq ?_
    refine WP.region ?_
    refine OPS.val rfl rfl rfl ((by exact Ev.indexAddr (el_run rfl) (size_run rfl) rfl rfl rfl (by omega))) ?_
    refine OPS.val rfl rfl rfl ((by (change Ev _ _ _ _ (Op.load 72 (Operand.tmp 57)) _; exact Ev.loadN (edgCells l[j]) (agg_run rfl) (size_run rfl) rfl hc'))) ?_
    refine OPS.alloc rfl rfl rfl rfl (zero_run rfl) rfl H ?_
    clear H; intro g14 w H
    refine OPS.store 0 _ rfl rfl rfl (size_run rfl) rfl (cA rfl) rfl rfl H rfl (by simp) ?_
    clear H; intro w H; try simp only [List.set_cons_zero, List.set_cons_succ, putL, Nat.zero_add] at H
    refine OPS.nil ?_
    refine WP.seq ?_
    rw [show edgCells l[j] = [I a, I b', I l[j].secs] from by unfold edgCells; rw [hfa, htb]] at H
    refine WP.region ?_
    refine OPS.val rfl rfl rfl (Ev.mvF rfl) ?_
    refine OPS.val rfl rfl rfl ((by exact Ev.loadO 0 H rfl (agg_run rfl) (size_run rfl) (by rfl) rfl)) ?_
    refine OPS.call (d := some 62) rfl rfl rfl (EvC.clos rfl (fun_run (by rfl))) (roadForward a b' l[j].secs _) ?_
    rintro _ w ⟨rfl, hb⟩
    refine ⟨_, rfl, ?_⟩
    replace H := H.toBelow hb; clear hb
    refine OPS.val rfl rfl rfl (Ev.mvT rfl) ?_
    refine OPS.val rfl rfl rfl (Ev.extract rfl rfl) ?_
    refine OPS.val rfl rfl rfl (Ev.extract rfl rfl) ?_
    refine OPS.val rfl rfl rfl (Ev.asI rfl) ?_
    refine OPS.val rfl rfl rfl (Ev.asI rfl) ?_
    refine OPS.nil ?_
    refine WP.seq ?_
    refine WP.region ?_
    obtain ⟨_, _, e1, hfc⟩ := onesOwn H 4 rfl b' (by omega)
    cases e1
    refine OPS.val rfl rfl rfl (Ev.mvI rfl) ?_
    refine OPS.val rfl rfl rfl (Ev.fieldAddr (fld_run rfl) rfl) ?_
    refine OPS.val rfl rfl rfl (Ev.load1 (agg_run rfl) rfl (by exact H.ldL 1 rfl _ rfl)) ?_
    refine OPS.val rfl rfl rfl (Ev.eql rfl rfl) ?_
    refine OPS.val rfl rfl rfl (Ev.mvB rfl) ?_
    refine OPS.gval rfl rfl rfl rfl rfl (fun hg => Ev.mvS (by rfl)) ?_
    refine OPS.gval rfl rfl rfl rfl rfl (fun hg => Ev.mvI (by rfl)) ?_
    refine OPS.gval rfl rfl rfl rfl rfl (fun hg => (by exact Ev.indexAddr1 (el_run rfl) (size_run rfl) (by exact gvE hg rfl) (by exact gvE hg rfl) rfl (by omega))) ?_
    refine OPS.gval rfl rfl rfl rfl rfl (fun hg => Ev.load1 (agg_run rfl) (by exact gvE hg rfl) (by assumption)) ?_
    refine OPS.gval rfl rfl rfl rfl rfl (fun hg => Ev.not (by exact gvE hg rfl)) ?_
    refine OPS.val rfl rfl rfl ((by exact Ev.pickAnd rfl rfl rfl)) ?_
    refine OPS.nil ?_
    refine WP.cond rfl (fun hc13 => ?_) (fun hc13 => ?_)
    · rw [Bool.and_eq_true, Bool.not_eq_true', decide_eq_true_eq] at hc13
      have hav : a = v := by omega
      subst hav
      replace H : SH w0 [] w (([⟨g14, 72, [I a, I b', I l[j].secs]⟩, ⟨g11, 150, [I a, I ys, I ye]⟩, ⟨g3, 24, [I n, .slice (some ⟨b, o, none⟩) l.length cap]⟩, ⟨gB, 143, (best.set a ⟨ys, ye⟩).flatMap legCells⟩, ⟨gF, 4, (found.set a true).map Bo⟩]) ++ qLv gq Aq2 capq2 h2 p2 Lo2) := H
      refine WP.region ?_
      refine OPS.val rfl rfl rfl (Ev.mvP rfl) ?_
      refine OPS.val rfl rfl rfl (Ev.mvI rfl) ?_
      refine OPS.val rfl rfl rfl (Ev.fieldAddr (fld_run rfl) rfl) ?_
      refine OPS.val rfl rfl rfl (Ev.fieldAddr (fld_run rfl) rfl) ?_
      refine OPS.val rfl rfl rfl (Ev.load1 (agg_run rfl) rfl (by exact H.ldL 1 rfl _ rfl)) ?_
      refine OPS.val rfl rfl rfl (Ev.fieldAddr (fld_run rfl) rfl) ?_
      refine OPS.val rfl rfl rfl (Ev.load1 (agg_run rfl) rfl (by exact H.ldL 0 rfl _ rfl)) ?_
      refine OPS.val rfl rfl rfl (Ev.add rfl rfl (by unfold fits; omega)) ?_
      refine OPS.val rfl rfl rfl (Ev.fieldAddr (fld_run rfl) rfl) ?_
      refine OPS.val rfl rfl rfl (Ev.fieldAddr (fld_run rfl) rfl) ?_
      refine OPS.val rfl rfl rfl (Ev.load1 (agg_run rfl) rfl (by exact H.ldL 1 rfl _ rfl)) ?_
      refine OPS.val rfl rfl rfl (Ev.add rfl rfl (by unfold fits; omega)) ?_
      refine OPS.val rfl rfl rfl (Ev.build (bld_143_0_1 rfl rfl)) ?_
      refine OPS.val rfl rfl rfl (Ev.build (bld_150_0_1 rfl rfl)) ?_
      refine OPS.call (d := some 90) rfl rfl rfl (EvC.func (fun_run rfl)) (qPush gq capq2 Aq2 p2 b' (ys + l[j].secs) (ye + 1) h2 Lo2 w (qLv gq Aq2 capq2 h2 p2 Lo2 |>.map (·.g)) hO2 hh2 (by omega) (by omega) (H.restart (List.sublist_append_right _ _))) ?_
      rintro _ w ⟨rfl, Aq3, capq3, h3, Lo3, hpm3, hh3, hO3, Hc⟩
      refine ⟨_, rfl, ?_⟩
      replace H := SH.call (Lv := qLv gq Aq2 capq2 h2 p2 Lo2) (L1 := [_, _, _, _, _]) H Hc
      clear Hc
      have hI3 := hI2.push hok hR hEd hvn hfv hbm hyd hye hys hpm3
      have hl3 := hpm3.length_eq
      simp only [List.length_append, List.length_cons, List.length_nil] at hl3
      have hnx : ∃ (h3 : List Ent) (p3 : Int) (Aq3 : Option Addr) (capq3 : Nat) (Lo3 : List Blk), SH w0 [] w ([⟨g11, 150, [I a, I ys, I ye]⟩, ⟨g3, 24, [I n, .slice (some ⟨b, o, none⟩) l.length cap]⟩, ⟨gB, 143, (best.set a ⟨ys, ye⟩).flatMap legCells⟩, ⟨gF, 4, (found.set a true).map Bo⟩] ++ qLv gq Aq3 capq3 h3 p3 Lo3) ∧ SpI l n s K D a (fun i => i < j + 1) (found.set a true) (best.set a ⟨ys, ye⟩) h3 ∧ QOwn Aq3 capq3 h3 Lo3 ∧ HeapOk entLt h3 ∧ 0 ≤ p3 ∧ p3 ≤ p + (j + 1) ∧ (h3.length : Int) ≤ p3 ∧ h3.length ≤ h'.length + (j + 1) :=
        ⟨h3, p2 + 1, Aq3, capq3, Lo3, H.drop (List.sublist_cons_self _ _), hI3.mono fun i _ q => by omega, hO3, hh3, by omega, by omega, by omega, by omega⟩
      refine OPS.nil ?_
      refine WP.region ?_
      refine OPS.val rfl rfl rfl (Ev.add rfl rfl (by unfold fits; omega)) ?_
      refine OPS.val rfl rfl rfl (Ev.mvI rfl) ?_
      refine OPS.nil ?_
      obtain ⟨h3, p3, Aq3, capq3, Lo3, H', hI3, hO3, hh3, q1, q2, q3, q4⟩ := hnx
      exact ⟨(by repeat (first | exact Agree.refl _ _ | exact Agree.mix _ _ _ | refine Agree.upd rfl ?_ | refine Agree.mix2 rfl ?_)), k2 - 1, by omega, j + 1, h3, p3, Aq3, capq3, Lo3, by omega, rfl, H', hI3, hO3, hh3, q1, by omega, q3, by omega⟩
    have hI3 := hI2.pass (i := j) fun b2 w2 hE2 => by
      obtain ⟨_, q1, q2, _⟩ := hE2
      have e1 : a = v := by omega
      have e2 : b2 = b' := by omega
      subst e1 e2
      rw [hfb]
      simpa using hc13
    have hnx : ∃ (h3 : List Ent) (p3 : Int) (Aq3 : Option Addr) (capq3 : Nat) (Lo3 : List Blk), SH w0 [] w ([⟨g11, 150, [I v, I ys, I ye]⟩, ⟨g3, 24, [I n, .slice (some ⟨b, o, none⟩) l.length cap]⟩, ⟨gB, 143, (best.set v ⟨ys, ye⟩).flatMap legCells⟩, ⟨gF, 4, (found.set v true).map Bo⟩] ++ qLv gq Aq3 capq3 h3 p3 Lo3) ∧ SpI l n s K D v (fun i => i < j + 1) (found.set v true) (best.set v ⟨ys, ye⟩) h3 ∧ QOwn Aq3 capq3 h3 Lo3 ∧ HeapOk entLt h3 ∧ 0 ≤ p3 ∧ p3 ≤ p + (j + 1) ∧ (h3.length : Int) ≤ p3 ∧ h3.length ≤ h'.length + (j + 1) :=
      ⟨h2, p2, Aq2, capq2, Lo2, H.drop (List.sublist_cons_self _ _), hI3.mono fun i _ q => by omega, hO2, hh2, by omega, by omega, by omega, by omega⟩
    refine WP.skip ?_
    refine WP.region ?_
    refine OPS.val rfl rfl rfl (Ev.add rfl rfl (by unfold fits; omega)) ?_
    refine OPS.val rfl rfl rfl (Ev.mvI rfl) ?_
    refine OPS.nil ?_
    obtain ⟨h3, p3, Aq3, capq3, Lo3, H', hI3, hO3, hh3, q1, q2, q3, q4⟩ := hnx
    exact ⟨(by repeat (first | exact Agree.refl _ _ | exact Agree.mix _ _ _ | refine Agree.upd rfl ?_ | refine Agree.mix2 rfl ?_)), k2 - 1, by omega, j + 1, h3, p3, Aq3, capq3, Lo3, by omega, rfl, H', hI3, hO3, hh3, q1, by omega, q3, by omega⟩
  have hjl : j = l.length := by simp at hc10; omega
  have hm2 : openN (found.set v true) * 2000 + h2.length ≤ k - 1 := by
    have hk1 : openN found * 2000 + h.length ≤ (k - 1) + 1 := by omega
    exact cnt_arith (m := l.length) (y := h'.length) (by omega) hll hopen hlen2 hk1
  have hnext : ∃ g', g' < k ∧ ∃ (found : List Bool) (best : List Leg) (h : List Ent) (p : Int) (Aq : Option Addr) (capq : Nat) (Lo : List Blk) (x : Nat), SH w0 [] w ([⟨g3, 24, [I n, .slice A l.length cap]⟩, ⟨gB, 143, best.flatMap legCells⟩, ⟨gF, 4, found.map Bo⟩] ++ qLv gq Aq capq h p Lo) ∧ SpW l n s K D x (fun _ => True) found best h p Aq capq Lo ∧ openN found * 2000 + h.length ≤ g' :=
    ⟨k - 1, by omega, found.set v true, best.set v ⟨ys, ye⟩, h2, p2, Aq2, capq2, Lo2, v, H.drop (List.sublist_cons_self _ _), ⟨hI2.mono fun i hi _ => by omega, hO2, hh2, ⟨hp2, by omega⟩, hhp2⟩, hm2⟩
  refine WP.exit ?_
  refine XB.hit ?_
  exact ⟨(by repeat (first | exact Agree.refl _ _ | exact Agree.mix _ _ _ | refine Agree.upd rfl ?_ | refine Agree.mix2 rfl ?_)), hnext⟩
end Go.Proofs.Ytfddebpeiilohaa
