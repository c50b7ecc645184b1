/-
 Walk: spread (forwards).
-/
import Derived.Test.YthobaaefdehoiaaGreatPtr
set_option linter.all false
namespace Go.Proofs.YthobaaefdehoiaaGreat
open Go Go.W Go.RowKit
structure SpW (l : List Edg) (n s : Nat) (K : Nat → Bool) (D : Nat → Int) (x : Nat) (Pr : Nat → Prop) (found : List Bool) (best : List Leg) (h : List Ent) (p : Int) (A : Option Addr) (cap : Nat) (Lo : List Blk) : Prop where
 inv : SpI l n s K D x Pr found best h
 own : QOwn A cap h Lo
 heap : HeapOk entLt h
 p0 : 0 ≤ p ∧ p ≤ 1000 * (1 + (n : Int) - openN found)
 hp : (h.length : Int) ≤ p
theorem cnt_arith0 {a b k x y z m : Nat} (hl3 : x ≤ y + m) (hm : m ≤ 512) (h1 : a + 2000 ≤ b) (h2 : y + 1 = z) (hk : b + z ≤ k + 1) : a + x ≤ k := by
 have h4 : x ≤ y + 512 := by omega
 have h5 : a + 512 ≤ b := by omega
 omega
theorem cnt_arith {a b k x y z m : Nat} (hl3 : x ≤ y + m) (hm : m ≤ 512) (h1 : a < b) (h2 : y + 1 = z) (hk : b * 2000 + z ≤ k + 1) : a * 2000 + x ≤ k :=
 cnt_arith0 hl3 hm (by rw [← Nat.succ_mul]; exact Nat.mul_le_mul_right _ h1) h2 hk
set_option maxHeartbeats 1000000 in
theorem roadSpread (n s : Nat) (A : Option Addr) (l : List Edg) (cap : Nat) (K : Nat → Bool) (D : Nat → Int) (w0 : World) (hok : RoadOk n l) (hs : s < n) (hR : RD l n s K D) (hz : EdgsAt w0 A l) :
  Calls Tryz.prog 59 #[.agg #[I n, .slice A l.length cap], I s, .func (.func 60) #[] #[]] w0 fun e w' => ∃ (gB gF : Nat) (best : List Leg) (found : List Bool), e = .returned (.tuple #[.slice (some ⟨gB, 0, none⟩) n n, .slice (some ⟨gF, 0, none⟩) n n]) ∧ best.length = n ∧ found.length = n ∧
   (∀ v, v < n → fnd found v = K v ∧ (K v = true → bst best v = D v)) ∧ SH w0 [] w' [⟨gB, 142, best.flatMap legCells⟩, ⟨gF, 4, found.map Bo⟩] := by
 have H := SH.refl w0
 have hn2 := hok.n2
 have hll := hok.len
 refine Calls.ofWP Tryz.func59 rfl Tryz.results59 Tryz.ntmps59 rfl <| Y.qr <| Y.bx (cA rfl) H ?_
 clear H; intro g3 w H
 refine Y.v (Ev.asS rfl) <| Y.v (Ev.asS rfl) <| Y.z <| Y.q ?_
 refine WP.rheldC [8, 9, 17, 18, 19, 20, 21, 22] (fun u w' => ∃ gB gF : Nat, u 8 = .slice (some ⟨gB, 0, none⟩) n n ∧ u 9 = .slice (some ⟨gF, 0, none⟩) n n ∧ SH w0 [] w' [⟨g3, 24, [I n, .slice A l.length cap]⟩, ⟨gB, 142, mkL n (legCells default)⟩, ⟨gF, 4, mkL n [Bo false]⟩]) mixed H ?_ ?_
 ·clear H; intro w hbw1 H
  refine Y.t 0 H rfl rfl (fun w H => Y.f rfl rfl) <| Y.t 1 H rfl rfl (fun w H => Y.l H 0 rfl rfl rfl) <| Y.t 3 H rfl rfl (fun w H => Y.f rfl rfl) <| Y.t 4 H rfl rfl (fun w H => Y.l H 0 rfl rfl rfl) ?_
  refine Y.A2 2 5 rfl rfl rfl ?_ ?_
  ·refine Y.mk H (sl_run rfl) ?_
   clear H; intro g19 w H
   refine Y.z <| ⟨(H.drop (List.sublist_cons_self _ _)), ?_⟩
   refine Y.t 6 (H.drop (List.sublist_cons_self _ _)) rfl rfl (fun w H => Ev.asS rfl) <| Y.A1 5 rfl rfl <| Y.mk H (sl_run rfl) ?_
   clear H; intro g22 w H
   refine Y.z <| ⟨(H.drop ((List.sublist_cons_self _ _).trans (List.sublist_cons_self _ _))), ?_⟩
   refine Y.t 7 (H.drop ((List.sublist_cons_self _ _).trans (List.sublist_cons_self _ _))) rfl rfl (fun w H => Ev.asS rfl) <| Y.dn ?_
   refine ⟨Y.ag, g19, g22, rfl, rfl, ?_⟩; exact H.reidx [2, 1, 0] (by decide) rfl
  ·refine Y.mk H (sl_run rfl) ?_
   clear H; intro g22 w H
   refine Y.z <| ⟨(H.drop (List.sublist_cons_self _ _)), ?_⟩
   refine Y.A1 2 rfl rfl <| Y.mk H (sl_run rfl) ?_
   clear H; intro g19 w H
   refine Y.z <| ⟨(H.drop ((List.sublist_cons_self _ _).trans (List.sublist_cons_self _ _))), ?_⟩
   refine Y.t 6 (H.drop ((List.sublist_cons_self _ _).trans (List.sublist_cons_self _ _))) rfl rfl (fun w H => Ev.asS rfl) <| Y.t 7 (H.drop ((List.sublist_cons_self _ _).trans (List.sublist_cons_self _ _))) rfl rfl (fun w H => Ev.asS rfl) <| Y.dn ?_
   refine ⟨Y.ag, g19, g22, rfl, rfl, ?_⟩; exact H.reidx [2, 0, 1] (by decide) rfl
 clear H
 rintro u w ⟨gB, gF, h8, h9, H⟩
 refine WP.know (t := 8) h8 (WP.know (t := 9) h9 ?_)
 rw [mkL_rows, mkL_ones (enc1 := Bo)] at H
 refine Y.qr <| OPS.call (d := some 23) rfl rfl rfl (EvC.func (fun_run rfl)) (qNew w) ?_
 rintro _ w ⟨gq, rfl, Hc⟩
 refine ⟨_, rfl, ?_⟩
 replace H := SH.call (L1 := [_, _, _]) (Lv := []) H Hc
 clear Hc
 refine Y.v (Ev.asP rfl) <| Y.z <| Y.qr <| Y.v (Ev.mvP rfl) <| Y.a rfl <| Y.v (Ev.build (bld_168_0 rfl)) <| OPS.call (d := some 27) rfl rfl rfl (EvC.func (fun_run rfl)) (qPush gq 0 none 0 s 0 0 [] [] w (qLv gq none 0 [] 0 [] |>.map (·.g)) OwnS.nil HeapOk.nil (by simp) (by omega) (H.restart (List.sublist_append_right _ _))) ?_
 rintro _ w ⟨rfl, Aq, capq, h1, Lo, hpm, hh1, hO1, Hc⟩
 refine ⟨_, rfl, ?_⟩
 obtain rfl : h1 = [⟨s, 0, 0, 0⟩] := List.perm_singleton.1 hpm
 replace H := SH.call (Lv := qLv gq none 0 [] 0 []) H Hc
 clear Hc
 refine Y.z <| WP.block <| WP.loop [6, 7, 11, 12, 14, 15, 16, 28, 29, 30, 31, 32, 33, 34, 35, 36, 37, 38, 39, 40, 41, 42, 43, 44, 45, 46, 47, 48, 49, 50, 51, 52, 53, 54, 55, 56, 57, 58, 59, 60, 61, 62, 63, 64, 65, 66, 67, 68, 69, 70, 71, 72, 73, 74, 75, 76, 77, 78, 79, 80, 81, 82, 83, 84, 85, 86, 87, 88, 89, 90, 91] (fun k _ w' => ∃ (found : List Bool) (best : List Leg) (h : List Ent) (p : Int) (Aq : Option Addr) (capq : Nat) (Lo : List Blk) (x : Nat), SH w0 [] w' ([⟨g3, 24, [I n, .slice A l.length cap]⟩, ⟨gB, 142, best.flatMap legCells⟩, ⟨gF, 4, found.map Bo⟩] ++ qLv gq Aq capq h p Lo) ∧ SpW l n s K D x (fun _ => True) found best h p Aq capq Lo ∧ openN found * 2000 + h.length ≤ k) (n * 2000 + 1) (⟨List.replicate n false, List.replicate n default, [⟨s, 0, 0, 0⟩], 0 + 1, Aq, capq, Lo, s, H, ⟨SpI.init hR hs, hO1, hh1, by simp [openN], by simp⟩, by simp [openN]⟩) ?_
 clear H hO1 hh1
 rintro k u w ⟨found, best, h, p, Aq, capq, Lo, x, H, hW, hk⟩
 have hfl := hW.inv.flen
 have hbl := hW.inv.blen
 have hon := openN_len found
 have hp0 := hW.p0
 have hhp := hW.hp
 have hhl : h.length ≤ 1000000 := by omega
 refine WP.block <| Y.qr <| Y.v (Ev.mvP rfl) <| OPS.call (d := some 30) rfl rfl rfl (EvC.func (fun_run rfl)) (qPop2 gq capq Aq p h Lo w (qLv gq Aq capq h p Lo |>.map (·.g)) hW.own hW.heap hhl (H.restart (List.sublist_append_right _ _))) ?_
 rintro _ w ⟨y, ok, h', Lo', rfl, hno, hyes, hh', hO', Hc⟩
 refine ⟨_, rfl, ?_⟩
 replace H := SH.call (Lv := qLv gq Aq capq h p Lo) (L1 := [_, _, _]) H Hc
 clear Hc
 refine Y.v (Ev.mvT rfl) <| Y.v (Ev.extract rfl rfl) <| Y.v (Ev.extract rfl rfl) <| Y.al H rfl rfl ?_
 clear H; intro g11 w H
 refine Y.ss 0 H rfl (cA rfl) rfl ?_
 clear H; intro w H
 refine Y.v (Ev.asB rfl) <| Y.z <| Y.q <| Y.qr <| Y.v (Ev.mvB rfl) <| Y.v (Ev.not rfl) <| Y.z ?_
 refine WP.cond rfl (fun hc5 => ?_) (fun hc5 => ?_)
 ·have hok2 : ok = false := by simpa using hc5
  obtain ⟨rfl, rfl⟩ := hno hok2
  refine Y.qr <| Y.v (Ev.mvS rfl) <| Y.v (Ev.mvS rfl) <| Y.v (Ev.asS rfl) <| Y.v (Ev.asS rfl) <| Y.z ?_
  refine WP.ret ⟨_, rfl, ?_⟩
  exact ⟨gB, gF, best, found, rfl, hbl, hfl, hW.inv.done hok hR, H.reidx [2, 3] (by decide) rfl⟩
 have hok2 : ok = true := by simpa using hc5
 obtain ⟨hpm2, hmin⟩ := hyes hok2
 obtain ⟨⟨v, hvn, hyv, hkv, hle⟩, _⟩ := hW.inv.ent y (hpm2.subset (List.mem_cons_self ..))
 have hlen2 := hpm2.length_eq
 simp only [List.length_cons] at hlen2
 obtain ⟨yn, ys, ye, yk⟩ := y
 simp only at hyv hle hmin
 subst hyv
 simp only [labCells, putL, List.set_cons_zero, List.set_cons_succ, List.cons_append, List.nil_append] at H
 have hdv : fnd found v = found[v]'(by omega) := by simp [fnd, hfl, hvn]
 refine Y.k <| Y.q <| Y.qr ?_
 obtain ⟨_, _, e1, hdc⟩ := onesOwn H 3 rfl v (by omega)
 cases e1
 refine Y.v (Ev.mvS rfl) <| Y.fa rfl rfl <| Y.j H 0 rfl rfl rfl <| Y.v (Y.x rfl rfl rfl rfl) <| Y.v (Y.c (by assumption) rfl) ?_
 refine Y.z ?_
 refine WP.cond rfl (fun hc7 => ?_) (fun hc7 => ?_)
 ·have hnext : ∃ g', g' < k ∧ ∃ (found : List Bool) (best : List Leg) (h : List Ent) (p : Int) (Aq : Option Addr) (capq : Nat) (Lo : List Blk) (x : Nat), SH w0 [] w ([⟨g3, 24, [I n, .slice A l.length cap]⟩, ⟨gB, 142, best.flatMap legCells⟩, ⟨gF, 4, found.map Bo⟩] ++ qLv gq Aq capq h p Lo) ∧ SpW l n s K D x (fun _ => True) found best h p Aq capq Lo ∧ openN found * 2000 + h.length ≤ g' :=
   ⟨openN found * 2000 + h'.length, by omega, found, best, h', p, Aq, capq, Lo', x, H.drop (List.sublist_cons_self _ _), ⟨hW.inv.stale hpm2 rfl (by rw [hdv]; exact hc7), hO', hh', hp0, by omega⟩, Nat.le_refl _⟩
  refine WP.exit <| XB.hit ?_
  exact ⟨Y.ag, hnext⟩
 obtain ⟨hkv2, hyd, hye, hys, hI2⟩ := hW.inv.fresh hok hR hpm2 hmin rfl hvn (by rw [hdv]; exact hc7)
 simp only at hyd hye hys hI2
 have hopen := openN_set found v (by omega) (by show fnd found v = false; rw [hdv]; exact hc7)
 have hDn := hR.nn v hvn hkv2
 have hon2 := openN_len (found.set v true)
 rw [List.length_set] at hon2
 refine Y.k <| Y.q ?_
 have Hf := H
 replace H := H.reidx (L' := [⟨g11, 168, [I v, I ys, I ye]⟩, ⟨g3, 24, [I n, .slice A l.length cap]⟩]) [0, 1] (by decide) rfl
 have hpu1 : putL (best.flatMap legCells) (0 + v * 2) (legCells ⟨ys, ye⟩) = (best.set v ⟨ys, ye⟩).flatMap legCells := by rw [Nat.zero_add]; exact putL_rows legCells_len best v _ (by omega)
 have hpu2 : putL (found.map Bo) (0 + v) [Bo true] = (found.set v true).map Bo := by rw [Nat.zero_add, putL_ones]
 refine WP.rheldC [42, 43, 44, 45, 46, 47, 48, 49, 50, 51] (fun _ w' => SH w0 [] w' ([⟨g11, 168, [I v, I ys, I ye]⟩, ⟨g3, 24, [I n, .slice A l.length cap]⟩, ⟨gB, 142, (best.set v ⟨ys, ye⟩).flatMap legCells⟩, ⟨gF, 4, (found.set v true).map Bo⟩] ++ qLv gq Aq capq h' p Lo')) mixed H ?_ ?_
 ·clear H; intro w hbw8 H
  refine Y.t 0 H rfl rfl (fun w H => Ev.mvS rfl) <| Y.t 1 H rfl rfl (fun w H => Y.f rfl rfl) <| Y.t 2 H rfl rfl (fun w H => Y.l H 0 rfl rfl rfl) <| Y.t 3 H rfl rfl (fun w H => Ev.mvS rfl) <| Y.t 4 H rfl rfl (fun w H => Y.f rfl rfl) <| Y.t 5 H rfl rfl (fun w H => Y.l H 0 rfl rfl rfl) <| Y.t 6 H rfl rfl (fun w H => Y.f rfl rfl) <| Y.t 7 H rfl rfl (fun w H => Ev.loadN [_, _] (agg_run rfl) (size_run rfl) rfl ⟨H.ldL 0 rfl _ rfl, H.ldL 0 rfl _ rfl, trivial⟩) <| Y.t 8 H rfl rfl (fun w H => Y.X rfl rfl rfl rfl rfl) <| Y.A1 9 rfl rfl ?_
  try replace Hf := Hf.toBelow hbw8
  refine OPS.store (vs := legCells ⟨ys, ye⟩) 2 _ rfl rfl rfl (size_run rfl) rfl (cA rfl) rfl rfl Hf rfl (by simp only [rows_length legCells_len]; omega) ?_
  clear H Hf; intro w Hf
  simp only [List.set_cons_zero, List.set_cons_succ] at Hf
  rw [hpu1] at Hf
  have H := Hf.reidx (L' := [⟨g11, 168, [I v, I ys, I ye]⟩, ⟨g3, 24, [I n, .slice A l.length cap]⟩]) [0, 1] (by decide) rfl
  refine Y.z <| ⟨(H), ?_⟩
  refine Y.t 10 H rfl rfl (fun w H => Y.x rfl rfl rfl rfl) <| Y.A1 11 rfl rfl ?_
  try replace Hf := Hf.toBelow hbw8
  refine OPS.store (vs := [Bo true]) 3 _ rfl rfl rfl (size_run rfl) rfl (cB rfl) rfl rfl Hf rfl (by simp only [List.length_map]; omega) ?_
  clear H Hf; intro w Hf
  simp only [List.set_cons_zero, List.set_cons_succ] at Hf
  rw [hpu2] at Hf
  have H := Hf.reidx (L' := [⟨g11, 168, [I v, I ys, I ye]⟩, ⟨g3, 24, [I n, .slice A l.length cap]⟩]) [0, 1] (by decide) rfl
  refine Y.z <| ⟨(H), ?_⟩
  refine Y.dn ?_
  exact ⟨Y.ag, Hf⟩
 clear H
 rintro u2 w H
 refine Y.qr <| Y.fa rfl rfl <| Y.j H 1 rfl rfl rfl <| Y.v (Y.n rfl) <| Y.a rfl <| Y.z <| WP.block <| WP.loop [14, 15, 16, 55, 56, 57, 58, 59, 60, 61, 62, 63, 64, 65, 66, 67, 68, 69, 70, 71, 72, 73, 74, 75, 76, 77, 78, 79, 80, 81, 82, 83, 84, 85, 86, 87, 88, 89, 90, 91] (fun k2 e w' => ∃ (j : Nat) (h2 : List Ent) (p2 : Int) (Aq2 : Option Addr) (capq2 : Nat) (Lo2 : List Blk), j + k2 = l.length ∧ e 55 = I j ∧ SH w0 [] w' ([⟨g11, 168, [I v, I ys, I ye]⟩, ⟨g3, 24, [I n, .slice A l.length cap]⟩, ⟨gB, 142, (best.set v ⟨ys, ye⟩).flatMap legCells⟩, ⟨gF, 4, (found.set v true).map Bo⟩] ++ qLv gq Aq2 capq2 h2 p2 Lo2) ∧ SpI l n s K D v (fun i => i < j) (found.set v true) (best.set v ⟨ys, ye⟩) h2 ∧ QOwn Aq2 capq2 h2 Lo2 ∧ HeapOk entLt h2 ∧ 0 ≤ p2 ∧ p2 ≤ p + j ∧ (h2.length : Int) ≤ p2 ∧ h2.length ≤ h'.length + j) (l.length) (⟨0, h', p, Aq, capq, Lo', by omega, rfl, H, hI2.mono fun i _ q => absurd q (by omega), hO', hh', hp0.1, by omega, by omega, by omega⟩) ?_
 clear H hO' hh' hI2
 rintro k2 u2 w ⟨j, h2, p2, Aq2, capq2, Lo2, hk2, h55, H, hI2, hO2, hh2, hp2, hp3, hhp2, hhl2⟩
 refine WP.know (t := 55) h55 ?_
 unfold qLv qCells at H
 refine Y.qr <| Y.v (Ev.lss rfl rfl) <| Y.z <| Y.q ?_
 refine WP.cond rfl (fun hc10 => ?_) (fun hc10 => ?_)
 ·have hlt : j < l.length := by simpa using hc10
  obtain ⟨b, o, rfl, hc⟩ := hz j hlt
  have hc' := cellsAt_sh H hc
  have hnd := hok.nodes l[j] (List.getElem_mem hlt)
  have hsc := hok.secs l[j] (List.getElem_mem hlt)
  obtain ⟨a, hfa⟩ := Int.eq_ofNat_of_zero_le hnd.1.1
  obtain ⟨b', htb⟩ := Int.eq_ofNat_of_zero_le hnd.2.1
  have ham : a < n := by omega
  have hbm : b' < n := by omega
  have hEd : EdgeAt l j a b' l[j].secs := ⟨hlt, hfa, htb, rfl⟩
  have hfl2 : (found.set v true).length = n := by simp [hfl]
  have hfb : fnd (found.set v true) b' = (found.set v true)[b']'(by omega) := by simp [fnd, hfl, hbm]
  have hfv : fnd (found.set v true) v = true := by rw [fnd_set (by omega), if_pos rfl]
  refine Y.k <| Y.q <| WP.block <| Y.qr <| Y.v (Y.X rfl rfl rfl rfl rfl) <| Y.v (by (change Ev _ _ _ _ (Op.load 86 (Operand.tmp 57)) _; exact Ev.loadN (edgCells l[j]) (agg_run rfl) (size_run rfl) rfl hc')) <| Y.al H rfl rfl ?_
  clear H; intro g14 w H
  refine Y.ss 0 H rfl (cA rfl) rfl ?_
  clear H; intro w H
  refine Y.z <| Y.q ?_
  rw [show edgCells l[j] = [I a, I b', I l[j].secs] from by unfold edgCells; rw [hfa, htb]] at H
  refine Y.r <| Y.v (Ev.mvF rfl) <| Y.v (Y.o H 0 rfl rfl) <| OPS.call (d := some 62) rfl rfl rfl (EvC.clos rfl (fun_run rfl)) (roadForward a b' l[j].secs _) ?_
  rintro _ w ⟨rfl, hb⟩
  refine ⟨_, rfl, ?_⟩
  replace H := H.toBelow hb; clear hb
  refine Y.v (Ev.mvT rfl) <| Y.v (Ev.extract rfl rfl) <| Y.v (Ev.extract rfl rfl) <| Y.b rfl <| Y.b rfl <| Y.z <| Y.qr ?_
  obtain ⟨_, _, e1, hfc⟩ := onesOwn H 4 rfl b' (by omega)
  cases e1
  refine Y.a rfl <| Y.fa rfl rfl <| Y.j H 1 rfl rfl rfl <| Y.v (Ev.eql rfl rfl) <| Y.v (Ev.mvB rfl) <| Y.g rfl rfl (fun hg => Ev.mvS rfl) <| Y.g rfl rfl (fun hg => Y.m rfl) <| Y.g rfl rfl (fun hg => Ev.indexAddr1 (el_run rfl) (size_run rfl) (gvE hg rfl) (gvE hg rfl) rfl (by omega)) <| Y.g rfl rfl (fun hg => Ev.load1 (agg_run rfl) (gvE hg rfl) (by assumption)) ?_
  refine Y.g rfl rfl (fun hg => Ev.not (gvE hg rfl)) <| Y.v (Ev.pickAnd rfl rfl rfl) <| Y.z ?_
  refine WP.cond rfl (fun hc13 => ?_) (fun hc13 => ?_)
  ·rw [Bool.and_eq_true, Bool.not_eq_true', decide_eq_true_eq] at hc13
   have hav : a = v := by omega
   subst hav
   replace H : SH w0 [] w (([⟨g14, 86, [I a, I b', I l[j].secs]⟩, ⟨g11, 168, [I a, I ys, I ye]⟩, ⟨g3, 24, [I n, .slice (some ⟨b, o, none⟩) l.length cap]⟩, ⟨gB, 142, (best.set a ⟨ys, ye⟩).flatMap legCells⟩, ⟨gF, 4, (found.set a true).map Bo⟩]) ++ qLv gq Aq2 capq2 h2 p2 Lo2) := H
   refine Y.r <| Y.v (Ev.mvP rfl) <| Y.a rfl <| Y.fa rfl rfl <| Y.fa rfl rfl <| Y.j H 1 rfl rfl rfl <| Y.fa rfl rfl <| Y.j H 0 rfl rfl rfl <| Y.v (Y.p rfl rfl) <| Y.fa rfl rfl <| Y.fa rfl rfl <| Y.j H 1 rfl rfl rfl <| Y.v (Y.p rfl rfl) <| Y.v (Ev.build (bld_142_0_1 rfl rfl)) <| Y.v (Ev.build (bld_168_0_1 rfl rfl)) <| OPS.call (d := some 90) rfl rfl rfl (EvC.func (fun_run rfl)) (qPush gq capq2 Aq2 p2 b' (ys + l[j].secs) (ye + 1) h2 Lo2 w (qLv gq Aq2 capq2 h2 p2 Lo2 |>.map (·.g)) hO2 hh2 (by omega) (by omega) (H.restart (List.sublist_append_right _ _))) ?_
   rintro _ w ⟨rfl, Aq3, capq3, h3, Lo3, hpm3, hh3, hO3, Hc⟩
   refine ⟨_, rfl, ?_⟩
   replace H := SH.call (Lv := qLv gq Aq2 capq2 h2 p2 Lo2) (L1 := [_, _, _, _, _]) H Hc
   clear Hc
   have hI3 := hI2.push hok hR hEd hvn hfv hbm hyd hye hys hpm3
   have hl3 := hpm3.length_eq
   simp only [List.length_append, List.length_cons, List.length_nil] at hl3
   have hnx : ∃ (h3 : List Ent) (p3 : Int) (Aq3 : Option Addr) (capq3 : Nat) (Lo3 : List Blk), SH w0 [] w ([⟨g11, 168, [I a, I ys, I ye]⟩, ⟨g3, 24, [I n, .slice (some ⟨b, o, none⟩) l.length cap]⟩, ⟨gB, 142, (best.set a ⟨ys, ye⟩).flatMap legCells⟩, ⟨gF, 4, (found.set a true).map Bo⟩] ++ qLv gq Aq3 capq3 h3 p3 Lo3) ∧ SpI l n s K D a (fun i => i < j + 1) (found.set a true) (best.set a ⟨ys, ye⟩) h3 ∧ QOwn Aq3 capq3 h3 Lo3 ∧ HeapOk entLt h3 ∧ 0 ≤ p3 ∧ p3 ≤ p + (j + 1) ∧ (h3.length : Int) ≤ p3 ∧ h3.length ≤ h'.length + (j + 1) :=
    ⟨h3, p2 + 1, Aq3, capq3, Lo3, H.drop (List.sublist_cons_self _ _), hI3.mono fun i _ q => by omega, hO3, hh3, by omega, by omega, by omega, by omega⟩
   refine Y.z <| Y.r <| Y.v (Y.p rfl rfl) <| Y.a rfl <| Y.z ?_
   obtain ⟨h3, p3, Aq3, capq3, Lo3, H', hI3, hO3, hh3, q1, q2, q3, q4⟩ := hnx
   exact ⟨Y.ag, k2 - 1, by omega, j + 1, h3, p3, Aq3, capq3, Lo3, by omega, rfl, H', hI3, hO3, hh3, q1, by omega, q3, by omega⟩
  have hI3 := hI2.pass (i := j) fun b2 w2 hE2 => by
   obtain ⟨_, q1, q2, _⟩ := hE2
   have e1 : a = v := by omega
   have e2 : b2 = b' := by omega
   subst e1 e2
   rw [hfb]
   simpa using hc13
  have hnx : ∃ (h3 : List Ent) (p3 : Int) (Aq3 : Option Addr) (capq3 : Nat) (Lo3 : List Blk), SH w0 [] w ([⟨g11, 168, [I v, I ys, I ye]⟩, ⟨g3, 24, [I n, .slice (some ⟨b, o, none⟩) l.length cap]⟩, ⟨gB, 142, (best.set v ⟨ys, ye⟩).flatMap legCells⟩, ⟨gF, 4, (found.set v true).map Bo⟩] ++ qLv gq Aq3 capq3 h3 p3 Lo3) ∧ SpI l n s K D v (fun i => i < j + 1) (found.set v true) (best.set v ⟨ys, ye⟩) h3 ∧ QOwn Aq3 capq3 h3 Lo3 ∧ HeapOk entLt h3 ∧ 0 ≤ p3 ∧ p3 ≤ p + (j + 1) ∧ (h3.length : Int) ≤ p3 ∧ h3.length ≤ h'.length + (j + 1) :=
   ⟨h2, p2, Aq2, capq2, Lo2, H.drop (List.sublist_cons_self _ _), hI3.mono fun i _ q => by omega, hO2, hh2, by omega, by omega, by omega, by omega⟩
  refine Y.k <| Y.r <| Y.v (Y.p rfl rfl) <| Y.a rfl <| Y.z ?_
  obtain ⟨h3, p3, Aq3, capq3, Lo3, H', hI3, hO3, hh3, q1, q2, q3, q4⟩ := hnx
  exact ⟨Y.ag, k2 - 1, by omega, j + 1, h3, p3, Aq3, capq3, Lo3, by omega, rfl, H', hI3, hO3, hh3, q1, by omega, q3, by omega⟩
 have hjl : j = l.length := by simp at hc10; omega
 have hm2 : openN (found.set v true) * 2000 + h2.length ≤ k - 1 := by
  have hk1 : openN found * 2000 + h.length ≤ (k - 1) + 1 := by omega
  exact cnt_arith (m := l.length) (y := h'.length) (by omega) hll hopen hlen2 hk1
 have hnext : ∃ g', g' < k ∧ ∃ (found : List Bool) (best : List Leg) (h : List Ent) (p : Int) (Aq : Option Addr) (capq : Nat) (Lo : List Blk) (x : Nat), SH w0 [] w ([⟨g3, 24, [I n, .slice A l.length cap]⟩, ⟨gB, 142, best.flatMap legCells⟩, ⟨gF, 4, found.map Bo⟩] ++ qLv gq Aq capq h p Lo) ∧ SpW l n s K D x (fun _ => True) found best h p Aq capq Lo ∧ openN found * 2000 + h.length ≤ g' :=
  ⟨k - 1, by omega, found.set v true, best.set v ⟨ys, ye⟩, h2, p2, Aq2, capq2, Lo2, v, H.drop (List.sublist_cons_self _ _), ⟨hI2.mono fun i hi _ => by omega, hO2, hh2, ⟨hp2, by omega⟩, hhp2⟩, hm2⟩
 refine WP.exit <| XB.hit ?_
 exact ⟨Y.ag, hnext⟩
end Go.Proofs.YthobaaefdehoiaaGreat

/-
 Walks: times, Times.
-/
set_option linter.all false
namespace Go.Proofs.YthobaaefdehoiaaGreat
open Go Go.W Go.RowKit
open Classical in
noncomputable def roadT (n : Nat) (l : List Edg) (s v : Nat) : Int :=
 if h : ∃ KD : (Nat → Bool) × (Nat → Int), RD l n s KD.1 KD.2 then (if h.choose.1 v = true then h.choose.2 v else -1) else -1
theorem roadT_eq {n s : Nat} {l : List Edg} (hok : RoadOk n l) {K : Nat → Bool} {D : Nat → Int} (hR : RD l n s K D) {v : Nat} (hv : v < n) : roadT n l s v = if K v = true then D v else -1 := by
 have hex : ∃ KD : (Nat → Bool) × (Nat → Int), RD l n s KD.1 KD.2 := ⟨(K, D), hR⟩
 have hu := RD.unique hok hex.choose_spec hR v hv
 unfold roadT
 rw [dif_pos hex]
 cases hk : K v with
 | true =>
  rw [hk] at hu
  rw [if_pos hu.1, if_pos rfl]
  exact hu.2 hu.1
 | false =>
  rw [hk] at hu
  rw [if_neg (by rw [hu.1]; simp), if_neg (by simp)]
noncomputable def timesL (n : Nat) (l : List Edg) (s : Nat) : List Int := (List.range n).map (roadT n l s)
theorem timesL_length (n : Nat) (l : List Edg) (s : Nat) : (timesL n l s).length = n := by simp [timesL]
theorem timesL_at {n : Nat} {l : List Edg} {s v : Nat} (h : v < (timesL n l s).length) : (timesL n l s)[v] = roadT n l s v := by simp [timesL]
def timesErr (n : Int) (l : List Edg) (k : Int) : Int := if roadErr n l ≠ 0 then roadErr n l else if isNode n k = true then 0 else 7
noncomputable def timesOf (n : Int) (l : List Edg) (k : Int) : List Int := if timesErr n l k = 0 then timesL n.toNat l k.toNat else []
theorem timesErr_ok {n : Int} {l : List Edg} {k : Int} (h : timesErr n l k = 0) : ∃ m s : Nat, n = m ∧ k = s ∧ s < m ∧ RoadOk m l := by
 unfold timesErr at h
 split at h
 ·rename_i h1; exact absurd h h1
 ·rename_i h1
  split at h
  ·rename_i h2
   obtain ⟨m, rfl, hok⟩ := roadOk_of (by simpa using h1)
   simp [isNode] at h2
   obtain ⟨s, rfl⟩ := Int.eq_ofNat_of_zero_le h2.1
   exact ⟨m, s, rfl, rfl, by omega, hok⟩
  ·cases h
set_option maxHeartbeats 400000 in
theorem roadTimes0 (n s : Nat) (A : Option Addr) (l : List Edg) (cap : Nat) (w0 : World) (hok : RoadOk n l) (hs : s < n) (hz : EdgsAt w0 A l) :
  Calls Tryz.prog 48 #[.agg #[I n, .slice A l.length cap], I s] w0 fun e w' => ∃ g : Nat, e = .returned (.slice (some ⟨g, 0, none⟩) n n) ∧ SH w0 [] w' [⟨g, 3, (timesL n l s).map I⟩] := by
 have H := SH.refl w0
 have hn2 := hok.n2
 obtain ⟨K, D, hR⟩ := rd_exists hok hs
 refine Calls.ofWP Tryz.func48 rfl Tryz.results48 Tryz.ntmps48 rfl <| Y.qr <| Y.bx (cA rfl) H ?_
 clear H; intro g2 w H
 refine Y.v (Ev.asS rfl) <| Y.z <| Y.qr <| Y.v (Y.o H 0 rfl rfl) <| Y.a rfl <| OPS.call (d := some 12) rfl rfl rfl (EvC.func (fun_run rfl)) (roadSpread n s A l cap K D w hok hs hR (hz.sh H)) ?_
 rintro _ w ⟨gB, gF, best, found, rfl, hbl, hfl, hbf, Hc⟩
 refine ⟨_, rfl, ?_⟩
 replace H := SH.call (L1 := [_]) (Lv := []) H Hc
 clear Hc
 refine Y.v (Ev.mvT rfl) <| Y.v (Ev.extract rfl rfl) <| Y.v (Ev.extract rfl rfl) <| Y.v (Ev.asS rfl) <| Y.v (Ev.asS rfl) <| Y.z <| Y.qr <| Y.fa rfl rfl <| Y.j H 0 rfl rfl rfl <| Y.mk H (sl_run rfl) ?_
 clear H; intro g17 w H
 refine Y.v (Ev.asS rfl) <| Y.z ?_
 replace H := H.reidx (L' := [⟨g17, 3, (List.replicate n 0).map I⟩, ⟨gB, 142, best.flatMap legCells⟩, ⟨gF, 4, found.map Bo⟩]) [0, 2, 3] (by decide) (by rw [← mkL_ones]; rfl)
 have hml : (timesL n l s).length = (List.replicate n (0 : Int)).length := by simp [timesL]
 have htl := timesL_length n l s
 refine Y.q <| Y.qr <| Y.v (Ev.mvS rfl) <| Y.v (Y.n rfl) <| Y.a rfl <| Y.z <| WP.block <| WP.loop [8, 20, 21, 22, 23, 24, 25, 26, 27, 28, 29, 30, 31, 32, 33, 34, 35, 36, 37, 38] (fun k e w' => ∃ q : Nat, q + k = n ∧ e 20 = I q ∧ SH w0 [] w' [⟨g17, 3, (mixL (timesL n l s) (List.replicate n 0) q).map I⟩, ⟨gB, 142, best.flatMap legCells⟩, ⟨gF, 4, found.map Bo⟩]) (n) (⟨0, by omega, rfl, by rw [mixL_zero]; exact H⟩) ?_
 clear H
 rintro k u w ⟨q, hq, h20, H⟩
 refine WP.know (t := 20) h20 <| Y.qr <| Y.v (Ev.lss rfl rfl) <| Y.z <| Y.q ?_
 refine WP.cond rfl (fun hc4 => ?_) (fun hc4 => ?_)
 ·have hqn : q < n := by simpa using hc4
  have hmx : (mixL (timesL n l s) (List.replicate n 0) q).length = n := by rw [mixL_length hml (by omega)]; exact htl
  have hms := mixL_set (m := List.replicate n (0 : Int)) hml (show q < (timesL n l s).length by omega)
  rw [timesL_at] at hms
  have hT := roadT_eq hok hR hqn
  obtain ⟨hf1, hf2⟩ := hbf q hqn
  have hfq : fnd found q = found[q]'(by omega) := by simp [fnd, hfl, hqn]
  have hbq : bst best q = (best[q]'(by omega)).secs := by simp [bst, hbl, hqn]
  refine Y.k <| Y.q <| WP.block <| Y.qr <| Y.a rfl <| Y.b rfl <| Y.z <| Y.qr <| Y.v (Ev.mvS rfl) <| Y.a rfl <| Y.v (Y.x rfl rfl rfl rfl) ?_
  have hpu : putL ((mixL (timesL n l s) (List.replicate n 0) q).map I) (0 + q) [I (-1)] = ((mixL (timesL n l s) (List.replicate n 0) q).set q (-1)).map I := by rw [Nat.zero_add, putL_ones]
  refine OPS.store (vs := [I (-1)]) 0 _ rfl rfl rfl (size_run rfl) rfl (cI rfl) rfl rfl H rfl (by simp only [List.length_map, hmx]; omega) ?_
  clear H; intro w H
  simp only [List.set_cons_zero, List.set_cons_succ] at H
  rw [hpu] at H
  refine Y.z <| Y.qr ?_
  obtain ⟨_, _, e1, hfc⟩ := onesOwn H 2 rfl q (by omega)
  cases e1
  refine Y.v (Ev.mvS rfl) <| Y.a rfl <| Y.v (Y.x rfl rfl rfl rfl) <| Y.v (Y.c (by assumption) rfl) ?_
  refine Y.z ?_
  refine WP.cond rfl (fun hc7 => ?_) (fun hc7 => ?_)
  ·have hkq : K q = true := by rw [← hf1, hfq]; exact hc7
   have hTq : roadT n l s q = (best[q]'(by omega)).secs := by rw [hT, if_pos hkq, ← hf2 hkq, hbq]
   refine Y.r ?_
   obtain ⟨_, _, e1, b0, b1, _⟩ := rowsOwn' legCells_len H 1 rfl q (by omega)
   cases e1
   refine Y.v (Ev.mvS rfl) <| Y.a rfl <| Y.v (Ev.mvS rfl) <| Y.a rfl <| Y.v (Y.X rfl rfl rfl rfl rfl) <| Y.fa rfl rfl <| Y.v (Y.c (by assumption) rfl) ?_
   refine Y.v (Y.x rfl rfl rfl rfl) ?_
   have hpu : putL (((mixL (timesL n l s) (List.replicate n 0) q).set q (-1)).map I) (0 + q) [I (best[q]'(by omega)).secs] = (mixL (timesL n l s) (List.replicate n 0) (q + 1)).map I := by rw [Nat.zero_add, putL_ones, List.set_set, ← hTq, hms]
   refine OPS.store (vs := [I (best[q]'(by omega)).secs]) 0 _ rfl rfl rfl (size_run rfl) rfl (cI rfl) rfl rfl H rfl (by simp only [List.length_map, List.length_set, hmx]; omega) ?_
   clear H; intro w H
   simp only [List.set_cons_zero, List.set_cons_succ] at H
   rw [hpu] at H
   refine Y.z <| Y.r <| Y.v (Y.p rfl rfl) <| Y.a rfl <| Y.z ?_
   exact ⟨Y.ag, k - 1, by omega, q + 1, by omega, rfl, H⟩
  have hkq : K q = false := by rw [← hf1, hfq]; exact hc7
  have hTq : roadT n l s q = -1 := by rw [hT, if_neg (by rw [hkq]; simp)]
  rw [← hTq, hms] at H
  refine Y.k <| Y.r <| Y.v (Y.p rfl rfl) <| Y.a rfl <| Y.z ?_
  exact ⟨Y.ag, k - 1, by omega, q + 1, by omega, rfl, H⟩
 refine WP.exit <| XB.hit <| Y.qr <| Y.v (Ev.mvS rfl) <| Y.v (Ev.asS rfl) <| Y.z ?_
 refine WP.ret ⟨_, rfl, ?_⟩
 have hqn : q = n := by simp at hc4; omega
 have hma : mixL (timesL n l s) (List.replicate n 0) n = timesL n l s := by
  have h := mixL_all hml
  rw [htl] at h; exact h
 rw [hqn, hma] at H
 exact ⟨g17, rfl, H.reidx [0] (by decide) rfl⟩
theorem roadTimes (n k : Int) (A : Option Addr) (l : List Edg) (cap : Nat) (w0 : World) (hz : EdgsAt w0 A l) :
  Calls Tryz.prog 33 #[.agg #[I n, .slice A l.length cap], I k] w0 fun e w' => ∃ (C : Option Addr) (Lc : List Blk), e = .returned (.tuple #[.slice C (timesOf n l k).length (timesOf n l k).length, I (timesErr n l k)]) ∧ OwnL 3 I C (timesOf n l k) Lc ∧ SH w0 [] w' Lc := by
 have H := SH.refl w0
 refine Calls.ofWP Tryz.func33 rfl Tryz.results33 Tryz.ntmps33 rfl <| Y.qr <| Y.bx (cA rfl) H ?_
 clear H; intro g2 w H
 refine Y.v (Ev.asS rfl) <| Y.b rfl <| Y.z <| Y.q <| Y.qr <| Y.v (Y.o H 0 rfl rfl) <| OPS.call (d := some 8) rfl rfl rfl (EvC.func (fun_run rfl)) (roadCheck n A l cap w (hz.sh H)) ?_
 rintro _ w ⟨rfl, hb⟩
 refine ⟨_, rfl, ?_⟩
 replace H := H.toBelow hb; clear hb
 refine Y.b rfl <| Y.z <| Y.qr <| Y.a rfl <| Y.v (Ev.neq rfl rfl) <| Y.z ?_
 refine WP.cond rfl (fun hc2 => ?_) (fun hc2 => ?_)
 ·refine Y.qr <| Y.a rfl <| Y.v (Ev.asS rfl) <| Y.b rfl <| Y.z ?_
  refine WP.ret ⟨_, rfl, ?_⟩
  have h : roadErr n l ≠ 0 := by simpa using hc2
  have he : timesErr n l k = roadErr n l := by rw [timesErr, if_pos h]
  have ht : timesOf n l k = [] := by rw [timesOf, if_neg (by rw [he]; exact h)]
  exact ⟨none, [], by rw [ht, he]; rfl, by rw [ht]; exact OwnL.nil, H.reidx [] (by decide) rfl⟩
 have h0 : roadErr n l = 0 := by simpa using hc2
 refine Y.k <| Y.q <| Y.qr <| Y.v (Y.o H 0 rfl rfl) <| Y.a rfl <| OPS.call (d := some 14) rfl rfl rfl (EvC.func (fun_run rfl)) (roadNode n k _ _ _ _) ?_
 rintro _ w ⟨rfl, hb⟩
 refine ⟨_, rfl, ?_⟩
 replace H := H.toBelow hb; clear hb
 refine Y.v (Ev.not rfl) <| Y.z ?_
 refine WP.cond rfl (fun hc4 => ?_) (fun hc4 => ?_)
 ·refine Y.qr <| Y.v (Ev.asS rfl) <| Y.b rfl <| Y.z ?_
  refine WP.ret ⟨_, rfl, ?_⟩
  have hnn : isNode n k = false := by simpa using hc4
  have he : timesErr n l k = 7 := by rw [timesErr, if_neg (by simp [h0]), if_neg (by simp [hnn])]
  have ht : timesOf n l k = [] := by rw [timesOf, if_neg (by rw [he]; decide)]
  exact ⟨none, [], by rw [ht, he]; rfl, by rw [ht]; exact OwnL.nil, H.reidx [] (by decide) rfl⟩
 have hnn : isNode n k = true := by simpa using hc4
 have he : timesErr n l k = 0 := by rw [timesErr, if_neg (by simp [h0]), if_pos hnn]
 obtain ⟨m, s, rfl, rfl, hsm, hok⟩ := timesErr_ok he
 have ht : timesOf m l s = timesL m l s := by rw [timesOf, if_pos he]; simp
 refine Y.k <| Y.qr <| Y.v (Y.o H 0 rfl rfl) <| Y.a rfl <| OPS.call (d := some 18) rfl rfl rfl (EvC.func (fun_run rfl)) (roadTimes0 m s A l cap w hok hsm (hz.sh H)) ?_
 rintro _ w ⟨g, rfl, Hc⟩
 refine ⟨_, rfl, ?_⟩
 replace H := SH.call (L1 := [_]) (Lv := []) H Hc
 clear Hc
 refine Y.v (Ev.asS rfl) <| Y.b rfl <| Y.z ?_
 refine WP.ret ⟨_, rfl, ?_⟩
 exact ⟨some ⟨g, 0, none⟩, _, by rw [he, ht, timesL_length]; rfl, by rw [ht]; exact OwnL.mk g _, H.reidx [1] (by decide) rfl⟩
end Go.Proofs.YthobaaefdehoiaaGreat

/-
 Walks: in, the functions of slices and cmp, twice.
-/
set_option linter.all false
namespace Go.Proofs.YthobaaefdehoiaaGreat
open Go Go.W Go.RowKit
def inB (n lo hi : Int) : Bool := decide (lo ≤ n) && decide (n ≤ hi)
theorem truckIn (n lo hi : Int) (w0 : World) :
  Calls Tryz.prog 21 #[I n, I lo, I hi] w0 fun e w' => e = .returned (.bool (inB n lo hi)) ∧ Below w0.heap.size w0 w' := by
 have H := SH.refl w0
 refine Calls.ofWP Tryz.func21 rfl Tryz.results21 Tryz.ntmps21 rfl <| Y.qr <| Y.v (Ev.asB rfl) <| Y.z <| Y.qr <| Y.a rfl <| Y.a rfl <| Y.v (Ev.leq rfl rfl) <| Y.v (Ev.mvB rfl) <| Y.g rfl rfl (fun hg => Y.m rfl) <| Y.g rfl rfl (fun hg => Y.m rfl) <| Y.g rfl rfl (fun hg => Ev.leq (gvE hg rfl) (gvE hg rfl)) <| Y.v (Ev.pickAnd rfl rfl rfl) <| Y.v (Ev.asB rfl) <| Y.z ?_
 refine WP.ret ⟨_, rfl, ?_⟩
 exact ⟨rfl, H.below⟩
theorem slIndex (A : Option Addr) (l : List Int) (cap : Nat) (x : Int) (w0 : World) (hz : IntsAt w0 A l) (hl : l.length ≤ maxLen) :
  Calls Tryz.prog 38 #[.slice A l.length cap, I x] w0 fun e w' => ∃ r : Int, e = .returned (I r) ∧ (0 ≤ r ↔ x ∈ l) ∧ Below w0.heap.size w0 w' := by
 have H := SH.refl w0
 have hl' : l.length ≤ 9223372036854775807 := by unfold maxLen at hl; omega
 refine Calls.ofWP Tryz.func38 rfl Tryz.results38 Tryz.ntmps38 rfl <| Y.qr <| Y.b rfl <| Y.z <| Y.q <| Y.qr <| Y.v (Ev.mvS rfl) <| Y.v (Y.n rfl) <| Y.a rfl <| Y.z <| WP.block <| WP.loop [4, 5, 8, 9, 10, 11, 12, 13, 14, 15, 16, 17, 18] (fun k e w' => ∃ j : Nat, j + k = l.length ∧ e 8 = I j ∧ SH w0 [] w' [] ∧ ∀ i (h : i < l.length), i < j → l[i] ≠ x) (l.length) (⟨0, by omega, rfl, H, fun i _ hi => absurd hi (by omega)⟩) ?_
 clear H
 rintro k u w ⟨j, hk, h8, H, hall⟩
 refine WP.know (t := 8) h8 <| Y.qr <| Y.v (Ev.lss rfl rfl) <| Y.z <| Y.q ?_
 refine WP.cond rfl (fun hc2 => ?_) (fun hc2 => ?_)
 ·have hlt : j < l.length := by simpa using hc2
  obtain ⟨b, o, rfl, hx⟩ := hz j hlt
  refine Y.k <| Y.q <| WP.block <| Y.qr <| Y.a rfl <| Y.b rfl <| Y.z <| Y.qr <| Y.a rfl <| Y.v (Ev.mvS rfl) <| Y.a rfl <| Y.v (Y.x rfl rfl rfl rfl) <| Y.v (Y.c (H.ld0 (by assumption)) rfl) ?_
  refine Y.v (Ev.eql rfl rfl) <| Y.z ?_
  refine WP.cond rfl (fun hc4 => ?_) (fun hc4 => ?_)
  ·refine Y.qr <| Y.a rfl <| Y.b rfl <| Y.z ?_
   refine WP.ret ⟨_, rfl, ?_⟩
   have he : x = l[j] := by simpa using hc4
   exact ⟨j, rfl, ⟨fun _ => by rw [he]; exact List.getElem_mem hlt, fun _ => by omega⟩, H.below⟩
  refine Y.k <| Y.r <| Y.v (Y.p rfl rfl) <| Y.a rfl <| Y.z ?_
  refine ⟨Y.ag, k - 1, by omega, j + 1, by omega, rfl, H, fun i hi hij => ?_⟩
  rcases Nat.lt_succ_iff_lt_or_eq.1 hij with h | rfl
  ·exact hall i hi h
  ·have : ¬ x = l[i] := by simpa using hc4
   exact fun h => this h.symm
 refine WP.exit <| XB.hit <| Y.qr <| Y.b rfl <| Y.z ?_
 refine WP.ret ⟨_, rfl, ?_⟩
 refine ⟨-1, rfl, ⟨fun h => absurd h (by omega), fun h => ?_⟩, H.below⟩
 obtain ⟨i, hi, he⟩ := List.mem_iff_getElem.1 h
 exact absurd he (hall i hi (by simp at hc2; omega))
theorem slContains (A : Option Addr) (l : List Int) (cap : Nat) (x : Int) (w0 : World) (hz : IntsAt w0 A l) (hl : l.length ≤ maxLen) :
  Calls Tryz.prog 19 #[.slice A l.length cap, I x] w0 fun e w' => e = .returned (.bool (decide (x ∈ l))) ∧ Below w0.heap.size w0 w' := by
 have H := SH.refl w0
 refine Calls.ofWP Tryz.func19 rfl Tryz.results19 Tryz.ntmps19 rfl <| Y.qr <| Y.v (Ev.asB rfl) <| Y.z <| Y.qr <| Y.v (Ev.mvS rfl) <| Y.a rfl <| OPS.call (d := some 7) rfl rfl rfl (EvC.func (fun_run rfl)) (slIndex A l cap x w0 hz hl) ?_
 rintro _ w ⟨r, rfl, hr, hb⟩
 refine ⟨_, rfl, ?_⟩
 replace H := H.toBelow hb; clear hb
 refine Y.v (Ev.geq rfl rfl) <| Y.v (Ev.asB rfl) <| Y.z ?_
 refine WP.ret ⟨_, rfl, ?_⟩
 exact ⟨by rw [decide_eq_decide.2 hr.symm]; rfl, H.below⟩
structure Need where
 node : Int
 move : Int
instance : Inhabited Need := ⟨⟨0, 0⟩⟩
def needCells (x : Need) : List Value := [I x.node, I x.move]
theorem needCells_len (x : Need) : (needCells x).length = 2 := rfl
theorem slIndexFuncN (A : Option Addr) (l : List Need) (cap : Nat) (f : Nat) (caps : List Value) (p : Need → Bool) (w0 : World) (hz : RowsAt 2 needCells w0 A l) (hl : l.length ≤ maxLen) (hfun : funT f = true)
  (hf : ∀ x ∈ l, ∀ w, Below w0.heap.size w0 w → Calls Tryz.prog f ([Value.agg (needCells x).toArray] ++ caps).toArray w fun e w' => e = .returned (.bool (p x)) ∧ Below w.heap.size w w') :
  Calls Tryz.prog 40 #[.slice A l.length cap, .func (.func f) #[] caps.toArray] w0 fun e w' => ∃ r : Int, e = .returned (I r) ∧ (0 ≤ r ↔ l.any p = true) ∧ Below w0.heap.size w0 w' := by
 have H := SH.refl w0
 have hl' : l.length ≤ 9223372036854775807 := by unfold maxLen at hl; omega
 refine Calls.ofWP Tryz.func40 rfl Tryz.results40 Tryz.ntmps40 rfl <| Y.qr <| Y.b rfl <| Y.z <| Y.q <| Y.qr <| Y.v (Ev.mvS rfl) <| Y.v (Y.n rfl) <| Y.a rfl <| Y.z <| WP.block <| WP.loop [4, 5, 8, 9, 10, 11, 12, 13, 14, 15, 16, 17, 18] (fun k e w' => ∃ j : Nat, j + k = l.length ∧ e 8 = I j ∧ SH w0 [] w' [] ∧ ∀ i (h : i < l.length), i < j → p l[i] = false) (l.length) (⟨0, by omega, rfl, H, fun i _ hi => absurd hi (by omega)⟩) ?_
 clear H
 rintro k u w ⟨j, hk, h8, H, hall⟩
 refine WP.know (t := 8) h8 <| Y.qr <| Y.v (Ev.lss rfl rfl) <| Y.z <| Y.q ?_
 refine WP.cond rfl (fun hc2 => ?_) (fun hc2 => ?_)
 ·have hlt : j < l.length := by simpa using hc2
  obtain ⟨b, o, rfl, hx⟩ := hz j hlt
  refine Y.k <| Y.q <| WP.block <| Y.qr <| Y.a rfl <| Y.b rfl <| Y.z <| Y.qr <| Y.v (Ev.mvF rfl) <| Y.v (Ev.mvS rfl) <| Y.a rfl <| Y.v (Y.X rfl rfl rfl rfl rfl) <| Y.v (by (change Ev _ _ _ _ (Op.load 67 (Operand.tmp 14)) _; exact Ev.loadN (needCells l[j]) (agg_run rfl) (size_run rfl) rfl (cellsAt_sh H hx))) <| OPS.call (d := some 16) rfl rfl rfl (EvC.clos rfl (fun_run (by assumption))) (hf l[j] (List.getElem_mem hlt) w H.below) ?_
  rintro _ w ⟨rfl, hb⟩
  refine ⟨_, rfl, ?_⟩
  replace H := H.toBelow hb; clear hb
  refine Y.z ?_
  refine WP.cond rfl (fun hc4 => ?_) (fun hc4 => ?_)
  ·refine Y.qr <| Y.a rfl <| Y.b rfl <| Y.z ?_
   refine WP.ret ⟨_, rfl, ?_⟩
   exact ⟨j, rfl, ⟨fun _ => List.any_eq_true.2 ⟨l[j], List.getElem_mem hlt, hc4⟩, fun _ => by omega⟩, H.below⟩
  refine Y.k <| Y.r <| Y.v (Y.p rfl rfl) <| Y.a rfl <| Y.z ?_
  refine ⟨Y.ag, k - 1, by omega, j + 1, by omega, rfl, H, fun i hi hij => ?_⟩
  rcases Nat.lt_succ_iff_lt_or_eq.1 hij with h | rfl
  ·exact hall i hi h
  ·exact hc4
 refine WP.exit <| XB.hit <| Y.qr <| Y.b rfl <| Y.z ?_
 refine WP.ret ⟨_, rfl, ?_⟩
 refine ⟨-1, rfl, ⟨fun h => absurd h (by omega), fun h => ?_⟩, H.below⟩
 obtain ⟨x, hx, he⟩ := List.any_eq_true.1 h
 obtain ⟨i, hi, rfl⟩ := List.mem_iff_getElem.1 hx
 rw [hall i hi (by simp at hc2; omega)] at he; cases he
theorem slContainsFuncN (A : Option Addr) (l : List Need) (cap : Nat) (f : Nat) (caps : List Value) (p : Need → Bool) (w0 : World) (hz : RowsAt 2 needCells w0 A l) (hl : l.length ≤ maxLen) (hfun : funT f = true)
  (hf : ∀ x ∈ l, ∀ w, Below w0.heap.size w0 w → Calls Tryz.prog f ([Value.agg (needCells x).toArray] ++ caps).toArray w fun e w' => e = .returned (.bool (p x)) ∧ Below w.heap.size w w') :
  Calls Tryz.prog 22 #[.slice A l.length cap, .func (.func f) #[] caps.toArray] w0 fun e w' => e = .returned (.bool (l.any p)) ∧ Below w0.heap.size w0 w' := by
 have H := SH.refl w0
 refine Calls.ofWP Tryz.func22 rfl Tryz.results22 Tryz.ntmps22 rfl <| Y.qr <| Y.v (Ev.asB rfl) <| Y.z <| Y.qr <| Y.v (Ev.mvS rfl) <| Y.v (Ev.mvF rfl) <| OPS.call (d := some 7) rfl rfl rfl (EvC.func (fun_run rfl)) (slIndexFuncN A l cap f caps p w0 hz hl hfun hf) ?_
 rintro _ w ⟨r, rfl, hr, hb⟩
 refine ⟨_, rfl, ?_⟩
 replace H := H.toBelow hb; clear hb
 refine Y.v (Ev.geq rfl rfl) <| Y.v (Ev.asB rfl) <| Y.z ?_
 refine WP.ret ⟨_, rfl, ?_⟩
 have : l.any p = decide (0 ≤ r) := by
  cases h : l.any p with
  | true => exact (decide_eq_true (hr.2 h)).symm
  | false => exact (decide_eq_false fun q => by rw [hr.1 q] at h; cases h).symm
 exact ⟨by rw [this]; rfl, H.below⟩
theorem slIndexFuncI (A : Option Addr) (l : List Int) (cap : Nat) (f : Nat) (caps : List Value) (p : Int → Bool) (w0 : World) (hz : IntsAt w0 A l) (hl : l.length ≤ maxLen) (hfun : funT f = true)
  (hf : ∀ x ∈ l, ∀ w, Below w0.heap.size w0 w → Calls Tryz.prog f ([(I x : Value)] ++ caps).toArray w fun e w' => e = .returned (.bool (p x)) ∧ Below w.heap.size w w') :
  Calls Tryz.prog 37 #[.slice A l.length cap, .func (.func f) #[] caps.toArray] w0 fun e w' => ∃ r : Int, e = .returned (I r) ∧ (0 ≤ r ↔ l.any p = true) ∧ Below w0.heap.size w0 w' := by
 have H := SH.refl w0
 have hl' : l.length ≤ 9223372036854775807 := by unfold maxLen at hl; omega
 refine Calls.ofWP Tryz.func37 rfl Tryz.results37 Tryz.ntmps37 rfl <| Y.qr <| Y.b rfl <| Y.z <| Y.q <| Y.qr <| Y.v (Ev.mvS rfl) <| Y.v (Y.n rfl) <| Y.a rfl <| Y.z <| WP.block <| WP.loop [4, 5, 8, 9, 10, 11, 12, 13, 14, 15, 16, 17, 18] (fun k e w' => ∃ j : Nat, j + k = l.length ∧ e 8 = I j ∧ SH w0 [] w' [] ∧ ∀ i (h : i < l.length), i < j → p l[i] = false) (l.length) (⟨0, by omega, rfl, H, fun i _ hi => absurd hi (by omega)⟩) ?_
 clear H
 rintro k u w ⟨j, hk, h8, H, hall⟩
 refine WP.know (t := 8) h8 <| Y.qr <| Y.v (Ev.lss rfl rfl) <| Y.z <| Y.q ?_
 refine WP.cond rfl (fun hc2 => ?_) (fun hc2 => ?_)
 ·have hlt : j < l.length := by simpa using hc2
  obtain ⟨b, o, rfl, hx⟩ := hz j hlt
  refine Y.k <| Y.q <| WP.block <| Y.qr <| Y.a rfl <| Y.b rfl <| Y.z <| Y.qr <| Y.v (Ev.mvF rfl) <| Y.v (Ev.mvS rfl) <| Y.a rfl <| Y.v (Y.x rfl rfl rfl rfl) <| Y.v (Y.c (H.ld0 (by assumption)) rfl) ?_
  refine OPS.call (d := some 16) rfl rfl rfl (EvC.clos rfl (fun_run (by assumption))) (hf l[j] (List.getElem_mem hlt) w H.below) ?_
  rintro _ w ⟨rfl, hb⟩
  refine ⟨_, rfl, ?_⟩
  replace H := H.toBelow hb; clear hb
  refine Y.z ?_
  refine WP.cond rfl (fun hc4 => ?_) (fun hc4 => ?_)
  ·refine Y.qr <| Y.a rfl <| Y.b rfl <| Y.z ?_
   refine WP.ret ⟨_, rfl, ?_⟩
   exact ⟨j, rfl, ⟨fun _ => List.any_eq_true.2 ⟨l[j], List.getElem_mem hlt, hc4⟩, fun _ => by omega⟩, H.below⟩
  refine Y.k <| Y.r <| Y.v (Y.p rfl rfl) <| Y.a rfl <| Y.z ?_
  refine ⟨Y.ag, k - 1, by omega, j + 1, by omega, rfl, H, fun i hi hij => ?_⟩
  rcases Nat.lt_succ_iff_lt_or_eq.1 hij with h | rfl
  ·exact hall i hi h
  ·exact hc4
 refine WP.exit <| XB.hit <| Y.qr <| Y.b rfl <| Y.z ?_
 refine WP.ret ⟨_, rfl, ?_⟩
 refine ⟨-1, rfl, ⟨fun h => absurd h (by omega), fun h => ?_⟩, H.below⟩
 obtain ⟨x, hx, he⟩ := List.any_eq_true.1 h
 obtain ⟨i, hi, rfl⟩ := List.mem_iff_getElem.1 hx
 rw [hall i hi (by simp at hc2; omega)] at he; cases he
theorem slContainsFuncI (A : Option Addr) (l : List Int) (cap : Nat) (f : Nat) (caps : List Value) (p : Int → Bool) (w0 : World) (hz : IntsAt w0 A l) (hl : l.length ≤ maxLen) (hfun : funT f = true)
  (hf : ∀ x ∈ l, ∀ w, Below w0.heap.size w0 w → Calls Tryz.prog f ([(I x : Value)] ++ caps).toArray w fun e w' => e = .returned (.bool (p x)) ∧ Below w.heap.size w w') :
  Calls Tryz.prog 43 #[.slice A l.length cap, .func (.func f) #[] caps.toArray] w0 fun e w' => e = .returned (.bool (l.any p)) ∧ Below w0.heap.size w0 w' := by
 have H := SH.refl w0
 refine Calls.ofWP Tryz.func43 rfl Tryz.results43 Tryz.ntmps43 rfl <| Y.qr <| Y.v (Ev.asB rfl) <| Y.z <| Y.qr <| Y.v (Ev.mvS rfl) <| Y.v (Ev.mvF rfl) <| OPS.call (d := some 7) rfl rfl rfl (EvC.func (fun_run rfl)) (slIndexFuncI A l cap f caps p w0 hz hl hfun hf) ?_
 rintro _ w ⟨r, rfl, hr, hb⟩
 refine ⟨_, rfl, ?_⟩
 replace H := H.toBelow hb; clear hb
 refine Y.v (Ev.geq rfl rfl) <| Y.v (Ev.asB rfl) <| Y.z ?_
 refine WP.ret ⟨_, rfl, ?_⟩
 have : l.any p = decide (0 ≤ r) := by
  cases h : l.any p with
  | true => exact (decide_eq_true (hr.2 h)).symm
  | false => exact (decide_eq_false fun q => by rw [hr.1 q] at h; cases h).symm
 exact ⟨by rw [this]; rfl, H.below⟩
theorem cmpNaN (n : Int) (w0 : World) : Calls Tryz.prog 58 #[I n] w0 fun e w' => e = .returned (.bool false) ∧ Below w0.heap.size w0 w' := by
 have H := SH.refl w0
 refine Calls.ofWP Tryz.func58 rfl Tryz.results58 Tryz.ntmps58 rfl <| Y.qr <| Y.v (Ev.asB rfl) <| Y.z <| Y.qr <| Y.a rfl <| Y.a rfl <| Y.v (Ev.neq rfl rfl) <| Y.v (Ev.asB rfl) <| Y.z ?_
 refine WP.ret ⟨_, rfl, ?_⟩
 exact ⟨congrArg (fun b => Ending.returned (Bo b)) (show (!decide (n = n)) = false by simp), H.below⟩
theorem cmpLess (a b : Int) (w0 : World) : Calls Tryz.prog 47 #[I a, I b] w0 fun e w' => e = .returned (.bool (decide (a < b))) ∧ Below w0.heap.size w0 w' := by
 have H := SH.refl w0
 refine Calls.ofWP Tryz.func47 rfl Tryz.results47 Tryz.ntmps47 rfl <| Y.qr <| Y.v (Ev.asB rfl) <| Y.z <| Y.qr <| Y.a rfl <| OPS.call (d := some 6) rfl rfl rfl (EvC.func (fun_run rfl)) (cmpNaN a w0) ?_
 rintro _ w ⟨rfl, hb⟩
 refine ⟨_, rfl, ?_⟩
 replace H := H.toBelow hb; clear hb
 refine Y.v (Ev.mvB rfl) <| Y.g rfl rfl (fun hg => Y.m rfl) <| OPS.gcall0 (f := 58) (cmpNaN b w) (fun _ _ h => h) rfl rfl rfl rfl rfl (fun hg => EvC.conv (EvC.func (fun_run rfl)) (l1 (gvE hg rfl))) ?_
 intro w hbc; replace H := H.toBelow hbc
 refine Y.g rfl rfl (fun hg => Ev.not (gvE hg rfl)) <| Y.v (Ev.pickAnd rfl rfl rfl) <| Y.v (Ev.mvB rfl) <| Y.g rfl rfl (fun hg => Y.m rfl) <| Y.g rfl rfl (fun hg => Y.m rfl) <| Y.g rfl rfl (fun hg => Ev.lss (gvE hg rfl) (gvE hg rfl)) <| Y.v (Ev.pickOr rfl rfl rfl) <| Y.v (Ev.asB rfl) <| Y.z ?_
 refine WP.ret ⟨_, rfl, ?_⟩
 exact ⟨congrArg (fun b => Ending.returned (Bo b)) (show _ = decide (a < b) by simp), H.below⟩
def sortedB (l : List Int) : Bool := (List.range (l.length - 1)).all fun i => decide (l.getD i 0 ≤ l.getD (i + 1) 0)
end Go.Proofs.YthobaaefdehoiaaGreat

/-
 Walks: twice, IsSorted, Check of a night.
-/
set_option linter.all false
namespace Go.Proofs.YthobaaefdehoiaaGreat
open Go Go.W Go.RowKit
theorem onesTk {α : Type} {enc : α → Value} {w : World} {A : Option Addr} {l : List α} (h : OnesAt enc w A l) (j : Nat) : OnesAt enc w A (l.take j) := fun k hk => by
 obtain ⟨b, o, h1, h2⟩ := h k (by simp at hk; omega)
 exact ⟨b, o, h1, by rw [List.getElem_take]; exact h2⟩
theorem rowsTk {α : Type} {sz : Nat} {enc : α → List Value} {w : World} {A : Option Addr} {l : List α} (h : RowsAt sz enc w A l) (j : Nat) : RowsAt sz enc w A (l.take j) := fun k hk => by
 obtain ⟨b, o, h1, h2⟩ := h k (by simp at hk; omega)
 exact ⟨b, o, h1, by rw [List.getElem_take]; exact h2⟩
theorem slContainsT (A : Option Addr) (l : List Int) (j cap : Nat) (x : Int) (w0 : World) (hz : IntsAt w0 A l) (hj : j ≤ l.length) (hl : l.length ≤ maxLen) :
  Calls Tryz.prog 19 #[.slice A j cap, I x] w0 fun e w' => e = .returned (.bool (decide (x ∈ l.take j))) ∧ Below w0.heap.size w0 w' := by
 have h := slContains A (l.take j) cap x w0 (onesTk hz j) (by rw [List.length_take]; omega)
 rw [List.length_take, Nat.min_eq_left hj] at h; exact h
theorem slContainsFuncNT (A : Option Addr) (l : List Need) (j cap : Nat) (f : Nat) (caps : List Value) (p : Need → Bool) (w0 : World) (hz : RowsAt 2 needCells w0 A l) (hj : j ≤ l.length) (hl : l.length ≤ maxLen) (hfun : funT f = true)
  (hf : ∀ x ∈ l, ∀ w, Below w0.heap.size w0 w → Calls Tryz.prog f ([Value.agg (needCells x).toArray] ++ caps).toArray w fun e w' => e = .returned (.bool (p x)) ∧ Below w.heap.size w w') :
  Calls Tryz.prog 22 #[.slice A j cap, .func (.func f) #[] caps.toArray] w0 fun e w' => e = .returned (.bool ((l.take j).any p)) ∧ Below w0.heap.size w0 w' := by
 have h := slContainsFuncN A (l.take j) cap f caps p w0 (rowsTk hz j) (by rw [List.length_take]; omega) hfun (fun x hx => hf x (List.mem_of_mem_take hx))
 rw [List.length_take, Nat.min_eq_left hj] at h; exact h
def twiceB (l : List Int) : Bool := !decide l.Nodup
theorem nodup_take_succ {α : Type} {l : List α} {j : Nat} (hj : j < l.length) : (l.take (j + 1)).Nodup ↔ (l.take j).Nodup ∧ l[j] ∉ l.take j := by
 rw [List.take_succ_eq_append_getElem hj, List.nodup_append]
 constructor
 ·rintro ⟨h1, _, h3⟩
  exact ⟨h1, fun hm => h3 _ hm _ (by simp) rfl⟩
 ·rintro ⟨h1, h2⟩
  exact ⟨h1, by simp, fun a ha b hb he => by simp at hb; subst hb; subst he; exact h2 ha⟩
theorem nodup_of_take {α : Type} {l : List α} {j : Nat} (h : l.Nodup) : (l.take j).Nodup := h.sublist (List.take_sublist _ _)
theorem truckTwice (A : Option Addr) (l : List Int) (cap : Nat) (w0 : World) (hz : IntsAt w0 A l) (hl : l.length ≤ maxLen) (hcap : l.length ≤ cap) :
  Calls Tryz.prog 27 #[.slice A l.length cap] w0 fun e w' => e = .returned (.bool (twiceB l)) ∧ Below w0.heap.size w0 w' := by
 have H := SH.refl w0
 have hl' : l.length ≤ 9223372036854775807 := by unfold maxLen at hl; omega
 refine Calls.ofWP Tryz.func27 rfl Tryz.results27 Tryz.ntmps27 rfl <| Y.qr <| Y.v (Ev.asB rfl) <| Y.z <| Y.q <| Y.qr <| Y.v (Ev.mvS rfl) <| Y.v (Y.n rfl) <| Y.a rfl <| Y.z <| WP.block <| WP.loop [2, 3, 4, 7, 8, 9, 10, 11, 12, 13, 14, 15, 16, 17] (fun k e w' => ∃ j : Nat, j + k = l.length ∧ e 7 = I j ∧ SH w0 [] w' [] ∧ (l.take j).Nodup) (l.length) (⟨0, by omega, rfl, H, by simp⟩) ?_
 clear H
 rintro k u w ⟨j, hk, h7, H, hall⟩
 refine WP.know (t := 7) h7 <| Y.qr <| Y.v (Ev.lss rfl rfl) <| Y.z <| Y.q ?_
 refine WP.cond rfl (fun hc2 => ?_) (fun hc2 => ?_)
 ·have hlt : j < l.length := by simpa using hc2
  obtain ⟨b, o, rfl, hx⟩ := hz j hlt
  have hnt := nodup_take_succ hlt
  refine Y.k <| Y.q <| WP.block <| Y.qr <| Y.a rfl <| Y.v (Y.x rfl rfl rfl rfl) <| Y.v (Y.c (H.ld0 (by assumption)) rfl) ?_
  refine Y.b rfl <| Y.b rfl <| Y.z <| Y.qr <| Y.v (Ev.mvS rfl) <| Y.a rfl <| Y.v (Ev.sliceTo (j := j) (el_run rfl) ⟨1, size_run rfl⟩ rfl rfl rfl (by omega)) <| Y.a rfl <| OPS.call (d := some 16) rfl rfl rfl (EvC.func (fun_run rfl)) (slContainsT _ l j cap l[j] w (hz.sh H) (by omega) hl) ?_
  rintro _ w ⟨rfl, hb⟩
  refine ⟨_, rfl, ?_⟩
  replace H := H.toBelow hb; clear hb
  refine Y.z ?_
  refine WP.cond rfl (fun hc4 => ?_) (fun hc4 => ?_)
  ·refine Y.qr <| Y.v (Ev.asB rfl) <| Y.z ?_
   refine WP.ret ⟨_, rfl, ?_⟩
   have he : l[j] ∈ l.take j := by simpa using hc4
   have : twiceB l = true := by
    unfold twiceB
    rw [Bool.not_eq_true', decide_eq_false_iff_not]
    exact fun h => (hnt.1 (nodup_of_take h)).2 he
   exact ⟨by rw [this]; rfl, H.below⟩
  refine Y.k <| Y.r <| Y.v (Y.p rfl rfl) <| Y.a rfl <| Y.z ?_
  have he : l[j] ∉ l.take j := by simpa using hc4
  exact ⟨Y.ag, k - 1, by omega, j + 1, by omega, rfl, H, hnt.2 ⟨hall, he⟩⟩
 refine WP.exit <| XB.hit <| Y.qr <| Y.v (Ev.asB rfl) <| Y.z ?_
 refine WP.ret ⟨_, rfl, ?_⟩
 have hj : j = l.length := by simp at hc2; omega
 rw [hj, List.take_length] at hall
 exact ⟨by simp only [twiceB, hall, decide_true]; rfl, H.below⟩
theorem slIsSorted (A : Option Addr) (l : List Int) (cap : Nat) (w0 : World) (hz : IntsAt w0 A l) (hl : l.length ≤ maxLen) :
  Calls Tryz.prog 28 #[.slice A l.length cap] w0 fun e w' => e = .returned (.bool (sortedB l)) ∧ Below w0.heap.size w0 w' := by
 have H := SH.refl w0
 have hl' : l.length ≤ 9223372036854775807 := by unfold maxLen at hl; omega
 refine Calls.ofWP Tryz.func28 rfl Tryz.results28 Tryz.ntmps28 rfl <| Y.qr <| Y.v (Ev.asB rfl) <| Y.z <| Y.q <| Y.qr <| Y.v (Ev.mvS rfl) <| Y.v (Y.n rfl) <| Y.v (Y.s rfl rfl) <| Y.b rfl <| Y.z <| WP.block <| WP.loop [2, 3, 7, 8, 9, 10, 11, 12, 13, 14, 15, 16, 17, 18, 19, 20] (fun k e w' => ∃ j : Int, j ≤ k ∧ -1 ≤ j ∧ j < l.length ∧ (j = -1 → l.length = 0) ∧ e 3 = I j ∧ SH w0 [] w' [] ∧ ∀ i : Nat, j ≤ i → i + 1 < l.length → l.getD i 0 ≤ l.getD (i + 1) 0) (l.length) (⟨(l.length : Int) - 1, by omega, by omega, by omega, by omega, rfl, H, fun i h1 h2 => by omega⟩) ?_
 clear H
 rintro k u w ⟨j, hk, hj1, hj2, hj3, h3, H, hall⟩
 refine WP.know (t := 3) h3 <| Y.q <| Y.qr <| Y.a rfl <| Y.v (Ev.gtr rfl rfl) <| Y.z ?_
 refine WP.cond rfl (fun hc2 => ?_) (fun hc2 => ?_)
 ·have hj0 : 0 < j := by simpa using hc2
  obtain ⟨q, rfl⟩ : ∃ q : Nat, j = ((q + 1 : Nat) : Int) := ⟨(j - 1).toNat, by omega⟩
  obtain ⟨b, o, rfl, hx⟩ := hz (q + 1) (by omega)
  have hx1 := hz.atK (show q + 1 < l.length by omega)
  have hx2 := hz.atK (show q < l.length by omega)
  clear hx
  refine Y.k <| Y.q <| WP.block <| Y.q <| WP.rquiet mixed (by kernel_rfl) H ?_
  clear H; intro w hbw4 H
  refine Y.v (Ev.mvS rfl) <| Y.a rfl <| Y.v (Y.x rfl rfl rfl rfl) <| Y.v (Y.c (H.ld0 (by assumption)) rfl) ?_
  refine Y.v (Ev.mvS rfl) <| Y.a rfl <| Y.v (Y.s rfl rfl) <| Y.v (Ev.indexAddr1 (j := q) (el_run rfl) (size_run rfl) rfl rfl (by omega) (by omega)) <| Y.v (Y.c (H.ld0 (by assumption)) rfl) ?_
  refine OPS.callq rfl rfl rfl (EvC.func (fun_run rfl)) (fun w2 hb2 => cmpLess _ _ _) ?_
  refine OPS.nilq H ?_
  clear H; intro w hbx4 H
  refine WP.cond rfl (fun hc4 => ?_) (fun hc4 => ?_)
  ·refine Y.qr <| Y.v (Ev.asB rfl) <| Y.z ?_
   refine WP.ret ⟨_, rfl, ?_⟩
   have he : l[q + 1] < l[q] := by simpa using hc4
   have : sortedB l = false := by
    unfold sortedB
    rw [List.all_eq_false]
    refine ⟨q, by simp; omega, ?_⟩
    simp [show q < l.length by omega, show q + 1 < l.length by omega]
    omega
   exact ⟨by rw [this]; rfl, H.below⟩
  refine Y.k <| Y.r <| Y.a rfl <| Y.v (Y.s rfl rfl) <| Y.b rfl <| Y.z ?_
  have he : ¬ l[q + 1] < l[q] := by simpa using hc4
  refine ⟨Y.ag, k - 1, by omega, (q : Int), by omega, by omega, by omega, by omega, congrArg I (by omega), H, fun i h1 h2 => ?_⟩
  rcases Nat.lt_or_ge q i with h | h
  ·exact hall i (by omega) h2
  ·obtain rfl : i = q := by omega
   simp [show i < l.length by omega, h2]
   omega
 refine WP.exit <| XB.hit <| Y.qr <| Y.v (Ev.asB rfl) <| Y.z ?_
 refine WP.ret ⟨_, rfl, ?_⟩
 have hj : j ≤ 0 := by simpa using hc2
 have : sortedB l = true := by
  unfold sortedB
  rw [List.all_eq_true]
  intro i hi
  have hi2 : i < l.length - 1 := by simpa using hi
  exact decide_eq_true (hall i (by omega) (by omega))
 exact ⟨by rw [this]; rfl, H.below⟩
end Go.Proofs.YthobaaefdehoiaaGreat

/-
 Walks: Check of a night.
-/
set_option linter.all false
namespace Go.Proofs.YthobaaefdehoiaaGreat
open Go Go.W Go.RowKit
structure Truck where
 depot : Int
 cap : Int
 from_ : Int
 to_ : Int
instance : Inhabited Truck := ⟨⟨0, 0, 0, 0⟩⟩
def truckCells (t : Truck) : List Value := [I t.depot, I t.cap, I t.from_, I t.to_]
def truckBad (n : Int) (t : Truck) : Bool := !inB t.depot 0 (n - 1)
def truckRange (t : Truck) : Bool := !inB t.cap 1 32 || decide (t.from_ < 0) || decide (t.to_ < t.from_) || decide (86400 < t.to_)
def trucksErr (n : Int) : List Truck → Int
 | [] => 0
 | t :: l => if truckBad n t = true then 7 else if truckRange t = true then 1 else trucksErr n l
def needBad (n : Int) (x : Need) : Bool := !inB x.node 0 (n - 1)
def needRange (x : Need) : Bool := decide (x.move = 0) || !inB x.move (-32) 32
def needsErr (n : Int) : List Need → Int
 | [] => 0
 | t :: l => if needBad n t = true then 7 else if needRange t = true then 1 else needsErr n l
theorem trucksErr_drop {n : Int} {l : List Truck} : ∀ {j : Nat}, j ≤ l.length → (∀ i (hi : i < l.length), i < j → truckBad n l[i] = false ∧ truckRange l[i] = false) → trucksErr n l = trucksErr n (l.drop j)
 | 0, _, _ => by simp
 | j + 1, hj, h => by
  rw [trucksErr_drop (j := j) (by omega) (fun i hi hij => h i hi (by omega)), List.drop_eq_getElem_cons (show j < l.length by omega), trucksErr]
  obtain ⟨h1, h2⟩ := h j (by omega) (by omega)
  rw [h1, h2]; simp
theorem needsErr_drop {n : Int} {l : List Need} : ∀ {j : Nat}, j ≤ l.length → (∀ i (hi : i < l.length), i < j → needBad n l[i] = false ∧ needRange l[i] = false) → needsErr n l = needsErr n (l.drop j)
 | 0, _, _ => by simp
 | j + 1, hj, h => by
  rw [needsErr_drop (j := j) (by omega) (fun i hi hij => h i hi (by omega)), List.drop_eq_getElem_cons (show j < l.length by omega), needsErr]
  obtain ⟨h1, h2⟩ := h j (by omega) (by omega)
  rw [h1, h2]; simp
theorem trucksErr_ok {n : Int} : ∀ {l : List Truck}, trucksErr n l = 0 → ∀ t ∈ l, truckBad n t = false ∧ truckRange t = false
 | [], _, _, h => by cases h
 | a :: l, h, t, ht => by
  rw [trucksErr] at h
  split at h
  ·cases h
  ·rename_i h1
   split at h
   ·cases h
   ·rename_i h2
    rcases List.mem_cons.1 ht with rfl | ht
    ·exact ⟨by simpa using h1, by simpa using h2⟩
    ·exact trucksErr_ok h t ht
theorem needsErr_ok {n : Int} : ∀ {l : List Need}, needsErr n l = 0 → ∀ t ∈ l, needBad n t = false ∧ needRange t = false
 | [], _, _, h => by cases h
 | a :: l, h, t, ht => by
  rw [needsErr] at h
  split at h
  ·cases h
  ·rename_i h1
   split at h
   ·cases h
   ·rename_i h2
    rcases List.mem_cons.1 ht with rfl | ht
    ·exact ⟨by simpa using h1, by simpa using h2⟩
    ·exact needsErr_ok h t ht
def needTwice (ns : List Need) : Bool := twiceB (ns.map (·.node))
def fullB (ts : List Truck) (ns : List Need) : Bool := decide ((8 : Int) < ts.length) || decide ((16 : Int) < ns.length)
def nightErr (n : Int) (l : List Edg) (ts : List Truck) (ns : List Need) (h : Int) : Int :=
 if roadErr n l ≠ 0 then roadErr n l else if fullB ts ns = true then 8 else if trucksErr n ts ≠ 0 then trucksErr n ts else if needsErr n ns ≠ 0 then needsErr n ns else if needTwice ns = true then 6 else if inB h 0 3600 = true then 0 else 1
theorem truckCheckF (y : Need) (g : Nat) (nd mv : Int) (w0 : World) (hc : w0.cell? ⟨g, 0, none⟩ = some (I nd)) :
  Calls Tryz.prog 23 #[.agg #[I y.node, I y.move], .pointer (some ⟨g, 0, none⟩)] w0 fun e w' => e = .returned (.bool (decide (y.node = nd))) ∧ Below w0.heap.size w0 w' := by
 have H := SH.refl w0
 refine Calls.ofWP Tryz.func23 rfl Tryz.results23 Tryz.ntmps23 rfl <| Y.qr <| Y.bx (cA rfl) H ?_
 clear H; intro g2 w H
 refine Y.v (Ev.asB rfl) <| Y.z <| Y.qr <| Y.fa rfl rfl <| Y.j H 0 rfl rfl rfl <| Y.fa rfl rfl <| Y.v (Y.c (H.ld0 (by assumption)) rfl) ?_
 refine Y.v (Ev.eql rfl rfl) <| Y.v (Ev.asB rfl) <| Y.z ?_
 refine WP.ret ⟨_, rfl, ?_⟩
 exact ⟨rfl, H.below⟩
set_option maxHeartbeats 1000000 in
theorem truckCheck (n hd : Int) (A B C : Option Addr) (l : List Edg) (ts : List Truck) (ns : List Need) (ca cb cc : Nat) (w0 : World) (hz : EdgsAt w0 A l) (ht : RowsAt 4 truckCells w0 B ts) (hn : RowsAt 2 needCells w0 C ns) (hcc : ns.length ≤ cc) :
  Calls Tryz.prog 7 #[.agg #[I n, .slice A l.length ca, .slice B ts.length cb, .slice C ns.length cc, I hd]] w0 fun e w' => e = .returned (I (nightErr n l ts ns hd)) ∧ Below w0.heap.size w0 w' := by
 have H := SH.refl w0
 refine Calls.ofWP Tryz.func7 rfl Tryz.results7 Tryz.ntmps7 rfl <| Y.qr <| Y.bx (cA rfl) H ?_
 clear H; intro g1 w H
 refine Y.b rfl <| Y.z <| Y.q <| Y.qr <| Y.fa rfl rfl <| Y.v (Ev.loadN [_, _] (agg_run rfl) (size_run rfl) rfl ⟨H.ldL 0 rfl _ rfl, H.ldL 0 rfl _ rfl, trivial⟩) <| OPS.call (d := some 12) rfl rfl rfl (EvC.func (fun_run rfl)) (roadCheck n A l ca w (hz.sh H)) ?_
 rintro _ w ⟨rfl, hb⟩
 refine ⟨_, rfl, ?_⟩
 replace H := H.toBelow hb; clear hb
 refine Y.b rfl <| Y.z <| Y.qr <| Y.a rfl <| Y.v (Ev.neq rfl rfl) <| Y.z ?_
 refine WP.cond rfl (fun hc2 => ?_) (fun hc2 => ?_)
 ·refine Y.qr <| Y.a rfl <| Y.b rfl <| Y.z ?_
  refine WP.ret ⟨_, rfl, ?_⟩
  have h : roadErr n l ≠ 0 := by simpa using hc2
  exact ⟨by rw [nightErr, if_pos h]; rfl, H.below⟩
 have h0 : roadErr n l = 0 := by simpa using hc2
 refine Y.k <| Y.q <| Y.qr <| Y.fa rfl rfl <| Y.j H 0 rfl rfl rfl <| Y.v (Y.n rfl) <| Y.v (Ev.gtr rfl rfl) <| Y.v (Ev.mvB rfl) <| Y.g rfl rfl (fun hg => Y.f rfl rfl) <| Y.y rfl rfl H 0 (fun hg => gvE hg rfl) rfl rfl <| Y.g rfl rfl (fun hg => Ev.len (el_run rfl) (gvE hg rfl)) <| Y.g rfl rfl (fun hg => Ev.gtr (gvE hg rfl) rfl) <| Y.v (Ev.pickOr rfl rfl rfl) <| Y.z ?_
 refine WP.cond rfl (fun hc4 => ?_) (fun hc4 => ?_)
 ·refine Y.qr <| Y.b rfl <| Y.z ?_
  refine WP.ret ⟨_, rfl, ?_⟩
  exact ⟨by rw [nightErr, if_neg (by simp [h0]), if_pos (show fullB ts ns = true by simpa [fullB] using hc4)]; rfl, H.below⟩
 have hfu : fullB ts ns = false := by simpa [fullB] using hc4
 have hlt8 : ts.length ≤ 8 ∧ ns.length ≤ 16 := by simp at hc4; omega
 obtain ⟨m, rfl, hok⟩ := roadOk_of h0
 have hm2 := hok.n2
 have e0 : nightErr m l ts ns hd = if trucksErr m ts ≠ 0 then trucksErr m ts else if needsErr m ns ≠ 0 then needsErr m ns else if needTwice ns = true then 6 else if inB hd 0 3600 = true then 0 else 1 := by rw [nightErr, if_neg (by simp [h0]), if_neg (by simp [hfu])]
 refine Y.k <| Y.q <| Y.qr <| Y.fa rfl rfl <| Y.j H 0 rfl rfl rfl <| Y.v (Y.n rfl) <| Y.a rfl <| Y.z <| WP.block <| WP.loop [2, 5, 29, 30, 31, 32, 33, 34, 35, 36, 37, 38, 39, 40, 41, 42, 43, 44, 45, 46, 47, 48, 49, 50, 51, 52, 53, 54, 55, 56, 57, 58, 59, 60, 61, 62, 63, 64, 65, 66] (fun k e w' => ∃ j : Nat, j + k = ts.length ∧ e 29 = I j ∧ SH w0 [] w' [⟨g1, 28, [I m, .slice A l.length ca, .slice B ts.length cb, .slice C ns.length cc, I hd]⟩] ∧ ∀ i (hi : i < ts.length), i < j → truckBad m ts[i] = false ∧ truckRange ts[i] = false) (ts.length) (⟨0, by omega, rfl, H, fun i _ hi => absurd hi (by omega)⟩) ?_
 clear H
 rintro k u w ⟨j, hk, h29, H, hall⟩
 refine WP.know (t := 29) h29 <| Y.qr <| Y.v (Ev.lss rfl rfl) <| Y.z <| Y.q ?_
 refine WP.cond rfl (fun hc7 => ?_) (fun hc7 => ?_)
 ·have hlt : j < ts.length := by simpa using hc7
  obtain ⟨b, o, rfl, hc⟩ := ht j hlt
  have hc' := cellsAt_sh H hc
  refine Y.k <| Y.q <| WP.block <| Y.qr <| Y.v (Y.X rfl rfl rfl rfl rfl) <| Y.v (by (change Ev _ _ _ _ (Op.load 64 (Operand.tmp 31)) _; exact Ev.loadN (truckCells ts[j]) (agg_run rfl) (size_run rfl) rfl hc')) <| Y.al H rfl rfl ?_
  clear H; intro g5 w H
  refine Y.ss 0 H rfl (cA rfl) rfl ?_
  clear H; intro w H
  refine Y.z <| Y.q <| Y.qr <| Y.fa rfl rfl <| Y.j H 0 rfl rfl rfl <| Y.fa rfl rfl <| Y.fa rfl rfl <| Y.j H 1 rfl rfl rfl <| Y.v (Y.s rfl rfl) <| OPS.call (d := some 39) rfl rfl rfl (EvC.func (fun_run rfl)) (truckIn ts[j].depot 0 (m - 1) _) ?_
  rintro _ w ⟨rfl, hb⟩
  refine ⟨_, rfl, ?_⟩
  replace H := H.toBelow hb; clear hb
  refine Y.v (Ev.not rfl) <| Y.z ?_
  refine WP.cond rfl (fun hc9 => ?_) (fun hc9 => ?_)
  ·refine Y.qr <| Y.b rfl <| Y.z ?_
   refine WP.ret ⟨_, rfl, ?_⟩
   have he : trucksErr m ts = 7 := by rw [trucksErr_drop (by omega) hall, List.drop_eq_getElem_cons hlt, trucksErr, if_pos (show truckBad m ts[j] = true from hc9)]
   exact ⟨by rw [e0, he]; rfl, H.below⟩
  refine Y.k <| Y.qr <| Y.fa rfl rfl <| Y.j H 0 rfl rfl rfl <| OPS.call (d := some 43) rfl rfl rfl (EvC.func (fun_run rfl)) (truckIn ts[j].cap 1 32 _) ?_
  rintro _ w ⟨rfl, hb⟩
  refine ⟨_, rfl, ?_⟩
  replace H := H.toBelow hb; clear hb
  refine Y.v (Ev.not rfl) <| Y.v (Ev.mvB rfl) <| Y.g rfl rfl (fun hg => Y.f rfl rfl) <| Y.g rfl rfl (fun hg => Ev.fieldAddr (fld_run rfl) (gvE hg rfl)) <| Y.y rfl rfl H 0 (fun hg => gvE hg rfl) rfl rfl <| Y.g rfl rfl (fun hg => Ev.lss (gvE hg rfl) rfl) <| Y.v (Ev.pickOr rfl rfl rfl) <| Y.v (Ev.mvB rfl) <| Y.g rfl rfl (fun hg => Y.f rfl rfl) <| Y.g rfl rfl (fun hg => Ev.fieldAddr (fld_run rfl) (gvE hg rfl)) <| Y.y rfl rfl H 0 (fun hg => gvE hg rfl) rfl rfl <| Y.g rfl rfl (fun hg => Y.f rfl rfl) <| Y.g rfl rfl (fun hg => Ev.fieldAddr (fld_run rfl) (gvE hg rfl)) <| Y.y rfl rfl H 0 (fun hg => gvE hg rfl) rfl rfl <| Y.g rfl rfl (fun hg => Ev.gtr (gvE hg rfl) (gvE hg rfl)) <| Y.v (Ev.pickOr rfl rfl rfl) <| Y.v (Ev.mvB rfl) <| Y.g rfl rfl (fun hg => Y.f rfl rfl) <| Y.g rfl rfl (fun hg => Ev.fieldAddr (fld_run rfl) (gvE hg rfl)) <| Y.y rfl rfl H 0 (fun hg => gvE hg rfl) rfl rfl <| Y.g rfl rfl (fun hg => Ev.gtr (gvE hg rfl) rfl) <| Y.v (Ev.pickOr rfl rfl rfl) <| Y.z ?_
  refine WP.cond rfl (fun hc11 => ?_) (fun hc11 => ?_)
  ·refine Y.qr <| Y.b rfl <| Y.z ?_
   refine WP.ret ⟨_, rfl, ?_⟩
   have he : trucksErr m ts = 1 := by rw [trucksErr_drop (by omega) hall, List.drop_eq_getElem_cons hlt, trucksErr, if_neg (by rw [show truckBad m ts[j] = false from hc9]; simp), if_pos (show truckRange ts[j] = true from hc11)]
   exact ⟨by rw [e0, he]; rfl, H.below⟩
  refine Y.k <| Y.r <| Y.v (Y.p rfl rfl) <| Y.a rfl <| Y.z ?_
  refine ⟨Y.ag, k - 1, by omega, j + 1, by omega, rfl, H.drop (by simp), fun i hi hij => ?_⟩
  rcases Nat.lt_succ_iff_lt_or_eq.1 hij with h | rfl
  ·exact hall i hi h
  ·exact ⟨hc9, hc11⟩
 have hj : j = ts.length := by simp at hc7; omega
 subst hj
 have ht0 : trucksErr m ts = 0 := by rw [trucksErr_drop (by omega) hall]; simp [trucksErr]
 clear hall
 refine WP.exit <| XB.hit <| Y.q <| Y.qr <| Y.fa rfl rfl <| Y.j H 0 rfl rfl rfl <| Y.v (Y.n rfl) <| Y.a rfl <| Y.z <| WP.block <| WP.loop [2, 7, 70, 71, 72, 73, 74, 75, 76, 77, 78, 79, 80, 81, 82, 83, 84, 85, 86, 87, 88, 89, 90, 91] (fun k e w' => ∃ j : Nat, j + k = ns.length ∧ e 70 = I j ∧ SH w0 [] w' [⟨g1, 28, [I m, .slice A l.length ca, .slice B ts.length cb, .slice C ns.length cc, I hd]⟩] ∧ ∀ i (hi : i < ns.length), i < j → needBad m ns[i] = false ∧ needRange ns[i] = false) (ns.length) (⟨0, by omega, rfl, H, fun i _ hi => absurd hi (by omega)⟩) ?_
 clear H
 rintro k u w ⟨j, hk, h70, H, hall⟩
 refine WP.know (t := 70) h70 <| Y.qr <| Y.v (Ev.lss rfl rfl) <| Y.z <| Y.q ?_
 refine WP.cond rfl (fun hc15 => ?_) (fun hc15 => ?_)
 ·have hlt : j < ns.length := by simpa using hc15
  obtain ⟨b, o, rfl, hc⟩ := hn j hlt
  have hc' := cellsAt_sh H hc
  refine Y.k <| Y.q <| WP.block <| Y.qr <| Y.v (Y.X rfl rfl rfl rfl rfl) <| Y.v (by (change Ev _ _ _ _ (Op.load 67 (Operand.tmp 72)) _; exact Ev.loadN (needCells ns[j]) (agg_run rfl) (size_run rfl) rfl hc')) <| Y.al H rfl rfl ?_
  clear H; intro g7 w H
  refine Y.ss 0 H rfl (cA rfl) rfl ?_
  clear H; intro w H
  refine Y.z <| Y.q <| Y.qr <| Y.fa rfl rfl <| Y.j H 0 rfl rfl rfl <| Y.fa rfl rfl <| Y.fa rfl rfl <| Y.j H 1 rfl rfl rfl <| Y.v (Y.s rfl rfl) <| OPS.call (d := some 80) rfl rfl rfl (EvC.func (fun_run rfl)) (truckIn ns[j].node 0 (m - 1) _) ?_
  rintro _ w ⟨rfl, hb⟩
  refine ⟨_, rfl, ?_⟩
  replace H := H.toBelow hb; clear hb
  refine Y.v (Ev.not rfl) <| Y.z ?_
  refine WP.cond rfl (fun hc17 => ?_) (fun hc17 => ?_)
  ·refine Y.qr <| Y.b rfl <| Y.z ?_
   refine WP.ret ⟨_, rfl, ?_⟩
   have he : needsErr m ns = 7 := by rw [needsErr_drop (by omega) hall, List.drop_eq_getElem_cons hlt, needsErr, if_pos (show needBad m ns[j] = true from hc17)]
   exact ⟨by rw [e0, ht0, he]; rfl, H.below⟩
  refine Y.k <| Y.qr <| Y.fa rfl rfl <| Y.j H 0 rfl rfl rfl <| Y.v (Ev.eql rfl rfl) <| Y.v (Ev.mvB rfl) <| Y.g rfl rfl (fun hg => Y.f rfl rfl) <| Y.y rfl rfl H 0 (fun hg => gvE hg rfl) rfl rfl <| OPS.gcall0 (f := 21) (truckIn ns[j].move (-32) 32 _) (fun _ _ h => h) rfl rfl rfl rfl rfl (fun hg => EvC.conv (EvC.func (fun_run rfl)) (l3 (gvE hg rfl) rfl rfl)) ?_
  intro w hbc; replace H := H.toBelow hbc
  refine Y.g rfl rfl (fun hg => Ev.not (gvE hg rfl)) <| Y.v (Ev.pickOr rfl rfl rfl) <| Y.z ?_
  refine WP.cond rfl (fun hc19 => ?_) (fun hc19 => ?_)
  ·refine Y.qr <| Y.b rfl <| Y.z ?_
   refine WP.ret ⟨_, rfl, ?_⟩
   have he : needsErr m ns = 1 := by rw [needsErr_drop (by omega) hall, List.drop_eq_getElem_cons hlt, needsErr, if_neg (by rw [show needBad m ns[j] = false from hc17]; simp), if_pos (show needRange ns[j] = true from hc19)]
   exact ⟨by rw [e0, ht0, he]; rfl, H.below⟩
  refine Y.k <| Y.r <| Y.v (Y.p rfl rfl) <| Y.a rfl <| Y.z ?_
  refine ⟨Y.ag, k - 1, by omega, j + 1, by omega, rfl, H.drop (by simp), fun i hi hij => ?_⟩
  rcases Nat.lt_succ_iff_lt_or_eq.1 hij with h | rfl
  ·exact hall i hi h
  ·exact ⟨hc17, hc19⟩
 have hj : j = ns.length := by simp at hc15; omega
 subst hj
 have hn0 : needsErr m ns = 0 := by rw [needsErr_drop (by omega) hall]; simp [needsErr]
 clear hall
 refine WP.exit <| XB.hit <| Y.q <| Y.qr <| Y.fa rfl rfl <| Y.j H 0 rfl rfl rfl <| Y.v (Y.n rfl) <| Y.a rfl <| Y.z <| WP.block <| WP.loop [2, 8, 9, 95, 96, 97, 98, 99, 100, 101, 102, 103, 104, 105, 106] (fun k e w' => ∃ j : Nat, j + k = ns.length ∧ e 95 = I j ∧ SH w0 [] w' [⟨g1, 28, [I m, .slice A l.length ca, .slice B ts.length cb, .slice C ns.length cc, I hd]⟩] ∧ ((ns.map (·.node)).take j).Nodup) (ns.length) (⟨0, by omega, rfl, H, by simp⟩) ?_
 clear H
 rintro k u w ⟨j, hk, h95, H, hall⟩
 refine WP.know (t := 95) h95 <| Y.qr <| Y.v (Ev.lss rfl rfl) <| Y.z <| Y.q ?_
 refine WP.cond rfl (fun hc23 => ?_) (fun hc23 => ?_)
 ·have hlt : j < ns.length := by simpa using hc23
  obtain ⟨b, o, rfl, hc⟩ := hn j hlt
  have hc' := cellsAt_sh H hc
  have hnt := nodup_take_succ (l := ns.map (·.node)) (show j < (ns.map (·.node)).length by simpa using hlt)
  refine Y.k <| Y.q <| WP.block <| Y.qr <| Y.a rfl <| Y.v (Y.X rfl rfl rfl rfl rfl) <| Y.v (by (change Ev _ _ _ _ (Op.load 67 (Operand.tmp 98)) _; exact Ev.loadN (needCells ns[j]) (agg_run rfl) (size_run rfl) rfl hc')) <| Y.al H rfl rfl ?_
  clear H; intro g9 w H
  refine Y.b rfl <| Y.ss 0 H rfl (cA rfl) rfl ?_
  clear H; intro w H
  refine Y.z <| Y.qr <| Y.fa rfl rfl <| Y.j H 1 rfl rfl rfl <| Y.a rfl <| Y.v (Ev.sliceTo (j := j) (el_run rfl) ⟨2, size_run rfl⟩ rfl rfl rfl (by omega)) <| Y.v (Ev.makeFunc) <| OPS.call (d := some 105) rfl rfl rfl (EvC.func (fun_run rfl)) (slContainsFuncNT _ ns j cc _ [.pointer (some ⟨g9, 0, none⟩)] (fun y => decide (y.node = ns[j].node)) w (hn.sh H) (by omega) (by unfold maxLen; omega) rfl (fun x _ w2 hb => truckCheckF x g9 ns[j].node ns[j].move w2 (cell_below hb (H.ldL 0 rfl 0 rfl)))) ?_
  rintro _ w ⟨rfl, hb⟩
  refine ⟨_, rfl, ?_⟩
  replace H := H.toBelow hb; clear hb
  refine Y.z ?_
  refine WP.cond rfl (fun hc25 => ?_) (fun hc25 => ?_)
  ·refine Y.qr <| Y.b rfl <| Y.z ?_
   refine WP.ret ⟨_, rfl, ?_⟩
   obtain ⟨y, hy, he⟩ := List.any_eq_true.1 hc25
   have hm : ns[j].node ∈ (ns.map (·.node)).take j := by rw [← List.map_take]; exact List.mem_map.2 ⟨y, hy, by simpa using he⟩
   have : needTwice ns = true := by
    unfold needTwice twiceB
    rw [Bool.not_eq_true', decide_eq_false_iff_not]
    exact fun h => (hnt.1 (nodup_of_take h)).2 (by simpa using hm)
   exact ⟨by rw [e0, ht0, hn0, this]; rfl, H.below⟩
  refine Y.k <| Y.r <| Y.v (Y.p rfl rfl) <| Y.a rfl <| Y.z ?_
  have hm : ns[j].node ∉ (ns.map (·.node)).take j := by
   rw [← List.map_take]
   intro h
   obtain ⟨y, hy, he⟩ := List.mem_map.1 h
   have := List.any_eq_false.1 hc25 y hy
   simp [he] at this
  exact ⟨Y.ag, k - 1, by omega, j + 1, by omega, rfl, H.drop (by simp), hnt.2 ⟨hall, by simpa using hm⟩⟩
 have hj : j = ns.length := by simp at hc23; omega
 have hnd : needTwice ns = false := by
  rw [hj, show ns.length = (ns.map (·.node)).length by simp, List.take_length] at hall
  simp only [needTwice, twiceB, hall, decide_true]; rfl
 have e1 : nightErr m l ts ns hd = if inB hd 0 3600 = true then 0 else 1 := by rw [e0, ht0, hn0, hnd]; simp
 refine WP.exit <| XB.hit <| Y.q <| Y.qr <| Y.fa rfl rfl <| Y.j H 0 rfl rfl rfl <| OPS.call (d := some 109) rfl rfl rfl (EvC.func (fun_run rfl)) (truckIn hd 0 3600 _) ?_
 rintro _ w ⟨rfl, hb⟩
 refine ⟨_, rfl, ?_⟩
 replace H := H.toBelow hb; clear hb
 refine Y.v (Ev.not rfl) <| Y.z ?_
 refine WP.cond rfl (fun hc28 => ?_) (fun hc28 => ?_)
 ·refine Y.qr <| Y.b rfl <| Y.z ?_
  refine WP.ret ⟨_, rfl, ?_⟩
  exact ⟨by rw [e1, if_neg (by simpa using hc28)]; rfl, H.below⟩
 refine Y.k <| Y.qr <| Y.b rfl <| Y.z ?_
 refine WP.ret ⟨_, rfl, ?_⟩
 exact ⟨by rw [e1, if_pos (by simpa using hc28)]; rfl, H.below⟩
end Go.Proofs.YthobaaefdehoiaaGreat

/-
 Walks: drive, visit, home of a tour.
-/
set_option linter.all false
namespace Go.Proofs.YthobaaefdehoiaaGreat
open Go Go.W Go.RowKit
theorem rowsS {α : Type} {sz : Nat} {enc : α → List Value} {w0 w : World} {S : List Nat} {L : List Blk} {A : Option Addr} {l : List α} (h : RowsAt sz enc w0 A l) (hS : l ≠ [] → Off A S) (H : SH w0 S w L) : RowsAt sz enc w A l := by
 cases l with
 | nil => exact RowsAt.nil
 | cons a l => exact h.shS (hS (by simp)) H
theorem roadT_bd {n s v : Nat} {l : List Edg} (hok : RoadOk n l) (hs : s < n) (hv : v < n) : -1 ≤ roadT n l s v ∧ roadT n l s v ≤ 64000 := by
 obtain ⟨K, D, hR⟩ := rd_exists hok hs
 rw [roadT_eq hok hR hv]
 cases hk : K v with
 | true => have := hR.small hok hv hk; simp; omega
 | false => simp
theorem roadErr_ok {n : Nat} {l : List Edg} (hok : RoadOk n l) : roadErr n l = 0 := by
 have h1 := hok.n1
 have h2 := hok.n2
 have h3 := hok.len
 rw [roadErr, if_neg (by simp; omega), if_neg (by omega), edgsErr_drop (j := l.length) (Nat.le_refl _) (fun i hi _ => ?_)]
 ·simp [edgsErr]
 ·have h4 := hok.nodes l[i] (List.getElem_mem hi)
  have h5 := hok.secs l[i] (List.getElem_mem hi)
  refine ⟨?_, ?_⟩
  ·simp [edgBad, isNode]; omega
  ·simp [edgRange]; omega
theorem timesOf_ok {n s : Nat} {l : List Edg} (hok : RoadOk n l) (hs : s < n) : timesErr n l s = 0 ∧ timesOf n l s = timesL n l s := by
 have h : timesErr n l s = 0 := by
  have h1 := roadErr_ok hok
  unfold timesErr isNode
  simp [h1, hs]
 exact ⟨h, by rw [timesOf, if_pos h]; simp⟩
structure TS where
 at_ : Nat
 now : Int
 load : Int
 driven : Int
def tourCells (t : Truck) (N : List Value) (s : TS) : List Value := truckCells t ++ N ++ [I s.at_, I s.now, I s.load, I s.driven]
def driveE (d : Int) : Int := if d < 0 then 15 else 0
def driveS (d : Int) (v : Nat) (s : TS) : TS := ⟨v, s.now + d, s.load, s.driven + d⟩
def nightL (m : Nat) (A B C : Option Addr) (ll tl nl ca cb cc : Nat) (hd : Int) : List Value := [I m, .slice A ll ca, .slice B tl cb, .slice C nl cc, I hd]
set_option maxHeartbeats 1000000 in
theorem tourDrive (g m v : Nat) (A B C : Option Addr) (l : List Edg) (tl nl ca cb cc : Nat) (hd : Int) (t : Truck) (s : TS) (w0 : World) (S : List Nat) (hok : RoadOk m l) (hv : v < m) (hs : s.at_ < m) (hb : -1000000000000 ≤ s.now ∧ s.now ≤ 1000000000000 ∧ -1000000000000 ≤ s.driven ∧ s.driven ≤ 1000000000000)
  (hz : EdgsAt w0 A l) (hA : l ≠ [] → Off A S) (H0 : SH w0 S w0 [⟨g, 109, tourCells t (nightL m A B C l.length tl nl ca cb cc hd) s⟩]) :
  Calls Tryz.prog 57 #[.pointer (some ⟨g, 0, none⟩), I v] w0 fun e w' => e = .returned (I (driveE (roadT m l s.at_ v))) ∧ (0 ≤ roadT m l s.at_ v → SH w0 S w' [⟨g, 109, tourCells t (nightL m A B C l.length tl nl ca cb cc hd) (driveS (roadT m l s.at_ v) v s)⟩]) ∧ ∃ L, SH w0 S w' L := by
 have H := H0
 have hbd := roadT_bd hok hs hv
 obtain ⟨hte, htl⟩ := timesOf_ok hok hs
 have htn := timesL_length m l s.at_
 unfold tourCells truckCells nightL at H
 simp only [List.cons_append, List.nil_append] at H
 refine Calls.ofWP Tryz.func57 rfl Tryz.results57 Tryz.ntmps57 rfl <| Y.qr <| Y.b rfl <| Y.z <| Y.q ?_
 refine WP.rheldC [5, 6, 7, 8, 9, 10, 11, 12, 13, 14, 15, 16, 17, 18, 19] (fun u w' => ∃ (TA : Option Addr) (Lc : List Blk), u 5 = .slice TA (timesOf m l s.at_).length (timesOf m l s.at_).length ∧ u 6 = I (timesErr m l s.at_) ∧ OwnL 3 I TA (timesOf m l s.at_) Lc ∧ SH w0 S w' ([⟨g, 109, tourCells t (nightL m A B C l.length tl nl ca cb cc hd) s⟩] ++ Lc)) mixed H ?_ ?_
 ·clear H; intro w hbw1 H
  refine Y.t 0 H rfl rfl (fun w H => Ev.mvP rfl) <| Y.t 1 H rfl rfl (fun w H => Ev.nilCheckP rfl) <| Y.t 2 H rfl rfl (fun w H => Y.f rfl rfl) <| Y.t 3 H rfl rfl (fun w H => Y.f rfl rfl) <| Y.t 4 H rfl rfl (fun w H => Ev.loadN [_, _] (agg_run rfl) (size_run rfl) rfl ⟨H.ldL 0 rfl _ rfl, H.ldL 0 rfl _ rfl, trivial⟩) <| Y.t 5 H rfl rfl (fun w H => Ev.mvP rfl) <| Y.t 6 H rfl rfl (fun w H => Ev.nilCheckP rfl) <| Y.t 7 H rfl rfl (fun w H => Y.f rfl rfl) <| Y.t 8 H rfl rfl (fun w H => Y.l H 0 rfl rfl rfl) <| Y.A1 9 rfl rfl <| OPS.call (d := some 17) rfl rfl rfl (EvC.func (fun_run rfl)) (roadTimes m s.at_ A l ca _ (rowsS hz hA H)) ?_
  rintro _ w ⟨TA, Lc, rfl, hOL, Hc⟩
  refine ⟨_, rfl, ?_⟩
  have Hf : SH w0 S w ([_] ++ Lc) := SH.call (L1 := [_]) (Lv := []) H Hc
  clear H Hc
  have H := Hf.drop (List.sublist_append_left _ _)
  refine Y.z <| ⟨(H), ?_⟩
  refine Y.t 10 H rfl rfl (fun w H => Ev.mvT rfl) <| Y.t 11 H rfl rfl (fun w H => Ev.extract rfl rfl) <| Y.t 12 H rfl rfl (fun w H => Ev.extract rfl rfl) <| Y.t 13 H rfl rfl (fun w H => Ev.asS rfl) <| Y.t 14 H rfl rfl (fun w H => Ev.asI rfl) <| Y.dn ?_
  exact ⟨Y.ag, TA, Lc, rfl, rfl, hOL, Hf⟩
 clear H
 rintro u w ⟨TA, Lc, h5, h6, hOL, H⟩
 refine WP.know (t := 5) h5 (WP.know (t := 6) h6 ?_)
 unfold tourCells truckCells nightL at H
 simp only [List.cons_append, List.nil_append] at H
 rw [htl] at hOL
 have htv : (timesL m l s.at_)[v]'(by omega) = roadT m l s.at_ v := timesL_at (by omega)
 have hvl : v < (timesOf m l s.at_).length := by rw [htl]; omega
 have hrd : ∀ (w : World) (B : Blk), SH w0 S w ([B] ++ Lc) → OnesAt I w TA (timesL m l s.at_) := fun w B H => hOL.rd H (fun b hb => List.mem_append_right _ hb)
 obtain ⟨bt, ot, rfl, _⟩ := hrd w _ H v (by omega)
 have hx0 := (hrd w _ H).atK (show v < (timesL m l s.at_).length by omega)
 rw [htv] at hx0
 refine Y.q <| WP.block <| Y.qr <| Y.a rfl <| Y.v (Ev.neq rfl rfl) <| Y.v (Ev.asB rfl) <| Y.z ?_
 refine WP.cond rfl (fun hc2 => ?_) (fun hc2 => ?_)
 ·refine Y.qr <| Y.a rfl <| Y.b rfl <| Y.z ?_
  refine WP.ret ⟨_, rfl, ?_⟩
  exact absurd hc2 (by rw [hte]; simp)
 refine Y.qr <| Y.v (Ev.mvS rfl) <| Y.a rfl <| Y.v (Y.x rfl rfl rfl rfl) <| Y.v (Y.c (by assumption) rfl) ?_
 refine Y.v (Ev.lss rfl rfl) <| Y.v (Ev.asB rfl) <| Y.z ?_
 refine WP.cond rfl (fun hc4 => ?_) (fun hc4 => ?_)
 ·refine Y.qr <| Y.b rfl <| Y.z ?_
  refine WP.ret ⟨_, rfl, ?_⟩
  have hd0 : roadT m l s.at_ v < 0 := by simpa using hc4
  exact ⟨by rw [driveE, if_pos hd0]; rfl, fun h => absurd h (by omega), _, H⟩
 have hd0 : ¬ roadT m l s.at_ v < 0 := by simpa using hc4
 refine Y.k <| Y.qr <| Y.v (Ev.mvP rfl) <| Y.a rfl <| Y.v (Ev.nilCheckP rfl) <| Y.fa rfl rfl <| Y.ss 0 H rfl (cI rfl) rfl ?_
 clear H; intro w H
 refine Y.z <| Y.q <| WP.rtail 11 mixed (by kernel_rfl) H ?_
 clear H; intro w hbw7 H
 refine Y.v (Ev.mvP rfl) <| Y.v (Ev.nilCheckP rfl) <| Y.fa rfl rfl <| Y.j H 0 rfl rfl rfl <| Y.v (Ev.mvS rfl) <| Y.a rfl <| Y.v (Y.x rfl rfl rfl rfl) ?_
 have hxm := (hrd w _ H).atK (show v < (timesL m l s.at_).length by omega)
 rw [htv] at hxm
 refine Y.v (Y.c (by assumption) rfl) ?_
 refine Y.v (Y.p rfl rfl) <| Y.v (Ev.nilCheckP rfl) <| Y.fa rfl rfl <| OPS.nil_s <| Y.ss 0 H rfl (cI rfl) rfl ?_
 clear H; intro w H
 refine Y.z <| Y.q <| WP.rtail 11 mixed (by kernel_rfl) H ?_
 clear H; intro w hbw8 H
 refine Y.v (Ev.mvP rfl) <| Y.v (Ev.nilCheckP rfl) <| Y.fa rfl rfl <| Y.j H 0 rfl rfl rfl <| Y.v (Ev.mvS rfl) <| Y.a rfl <| Y.v (Y.x rfl rfl rfl rfl) ?_
 have hxm := (hrd w _ H).atK (show v < (timesL m l s.at_).length by omega)
 rw [htv] at hxm
 refine Y.v (Y.c (by assumption) rfl) ?_
 refine Y.v (Y.p rfl rfl) <| Y.v (Ev.nilCheckP rfl) <| Y.fa rfl rfl <| OPS.nil_s <| Y.ss 0 H rfl (cI rfl) rfl ?_
 clear H; intro w H
 refine Y.z <| Y.qr <| Y.b rfl <| Y.z ?_
 refine WP.ret ⟨_, rfl, ?_⟩
 exact ⟨by rw [driveE, if_neg hd0]; rfl, fun _ => H.drop (L' := [_]) (List.Sublist.cons_cons _ (List.nil_sublist _)), _, H⟩
end Go.Proofs.YthobaaefdehoiaaGreat

/-
 Walks: visit, home of a tour.
-/
set_option linter.all false
namespace Go.Proofs.YthobaaefdehoiaaGreat
open Go Go.W Go.RowKit
structure Vis where
 need : Int
 arrive : Int
 leave : Int
 load : Int
instance : Inhabited Vis := ⟨⟨0, 0, 0, 0⟩⟩
def visCells (v : Vis) : List Value := [I v.need, I v.arrive, I v.leave, I v.load]
def absI (z : Int) : Int := if z < -z then -z else z
def visitE (d cap : Int) (x : Need) (s : TS) : Int := if d < 0 then 15 else if inB (s.load + x.move) 0 cap = true then 0 else 24
def visitV (d hd : Int) (i : Int) (x : Need) (s : TS) : Vis := ⟨i, s.now + d, s.now + d + absI x.move * hd, s.load + x.move⟩
def visitT (d hd : Int) (x : Need) (s : TS) : TS := ⟨x.node.toNat, s.now + d + absI x.move * hd, s.load + x.move, s.driven + d⟩
set_option maxHeartbeats 1000000 in
theorem tourVisit (g m i : Nat) (A B C : Option Addr) (l : List Edg) (ns : List Need) (tl ca cb cc : Nat) (hd : Int) (t : Truck) (s : TS) (w0 : World) (S : List Nat) (hok : RoadOk m l) (hs : s.at_ < m) (hb : -100000000000 ≤ s.now ∧ s.now ≤ 100000000000 ∧ -100000000000 ≤ s.driven ∧ s.driven ≤ 100000000000 ∧ -100000 ≤ s.load ∧ s.load ≤ 100000)
  (hi : i < ns.length) (hx : 0 ≤ ns[i].node ∧ ns[i].node < m ∧ -32 ≤ ns[i].move ∧ ns[i].move ≤ 32) (hh : 0 ≤ hd ∧ hd ≤ 3600)
  (hz : EdgsAt w0 A l) (hA : l ≠ [] → Off A [g]) (hn : RowsAt 2 needCells w0 C ns) (hC : ns ≠ [] → Off C S) (H0 : SH w0 S w0 [⟨g, 109, tourCells t (nightL m A B C l.length tl ns.length ca cb cc hd) s⟩]) (hgS : S = [g]) :
  Calls Tryz.prog 45 #[.pointer (some ⟨g, 0, none⟩), I i] w0 fun e w' => e = .returned (.tuple #[.agg (visCells (if visitE (roadT m l s.at_ ns[i].node.toNat) t.cap ns[i] s = 0 then visitV (roadT m l s.at_ ns[i].node.toNat) hd i ns[i] s else default)).toArray, I (visitE (roadT m l s.at_ ns[i].node.toNat) t.cap ns[i] s)]) ∧
   (visitE (roadT m l s.at_ ns[i].node.toNat) t.cap ns[i] s = 0 → SH w0 S w' [⟨g, 109, tourCells t (nightL m A B C l.length tl ns.length ca cb cc hd) (visitT (roadT m l s.at_ ns[i].node.toNat) hd ns[i] s)⟩]) ∧ ∃ L, SH w0 S w' L := by
 have H := H0
 obtain ⟨v, hv⟩ := Int.eq_ofNat_of_zero_le hx.1
 have hvm : v < m := by omega
 have hvT : ns[i].node.toNat = v := by omega
 rw [hvT]
 have hbd := roadT_bd hok hs hvm
 generalize hD : roadT m l s.at_ v = d at *
 have hxa : 0 ≤ absI ns[i].move ∧ absI ns[i].move ≤ 32 := by unfold absI; split <;> omega
 have hmul : 0 ≤ absI ns[i].move * hd ∧ absI ns[i].move * hd ≤ 115200 := by
  refine ⟨Int.mul_nonneg hxa.1 hh.1, ?_⟩
  calc absI ns[i].move * hd ≤ 32 * hd := Int.mul_le_mul_of_nonneg_right hxa.2 hh.1
   _ ≤ 115200 := by omega
 have hmul2 : 0 ≤ (if ns[i].move < -ns[i].move then -ns[i].move else ns[i].move) * hd ∧ (if ns[i].move < -ns[i].move then -ns[i].move else ns[i].move) * hd ≤ 115200 := hmul
 obtain ⟨bn, on, rfl, hc⟩ := hn i hi
 have hnb : bn ∉ S := hC (by intro h; subst h; simp at hi) bn on rfl
 have hcd : needCells ns[i] = [I v, I ns[i].move] := by unfold needCells; rw [hv]
 unfold tourCells truckCells nightL at H
 simp only [List.cons_append, List.nil_append] at H
 refine Calls.ofWPc Tryz.func45 rfl Tryz.results45 Tryz.ntmps45 rfl <| Y.qr <| Y.al H rfl rfl ?_
 clear H; intro g4 w H
 refine Y.b rfl <| Y.z <| Y.qr <| Y.v (Ev.mvP rfl) <| Y.v (Ev.nilCheckP rfl) <| Y.fa rfl rfl <| Y.fa rfl rfl <| Y.j H 1 rfl rfl rfl <| Y.a rfl <| Y.v (Y.X rfl rfl rfl rfl rfl) ?_
 have hc' := cellsAt_shS H hnb hc
 rw [hcd] at hc'
 refine Y.v (by (change Ev _ _ _ _ (Op.load 67 (Operand.tmp 15)) _; exact Ev.loadN [I v, I ns[i].move] (agg_run rfl) (size_run rfl) rfl hc')) <| Y.al H rfl rfl ?_
 clear H; intro g6 w H
 refine Y.st 0 H rfl (cA rfl) rfl ?_
 clear H; intro w H
 simp only [List.set_cons_zero, List.set_cons_succ, putL, Nat.zero_add] at H
 refine Y.z <| Y.q <| Y.qr <| Y.v (Ev.mvP rfl) <| Y.fa rfl rfl <| Y.j H 0 rfl rfl rfl <| OPS.call (d := some 20) rfl rfl rfl (EvC.func (fun_run rfl)) (tourDrive g m v A B (some ⟨bn, on, none⟩) l tl ns.length ca cb cc hd t s w [g] hok hvm hs (by omega) (rowsS hz (by rw [hgS]; exact hA) H) hA (H.restart (Lv := [⟨g, 109, tourCells t (nightL m A B (some ⟨bn, on, none⟩) l.length tl ns.length ca cb cc hd) s⟩]) (((List.Sublist.refl _).cons _).cons _))) ?_
 rintro _ w ⟨rfl, hdr, Lx, Hx⟩
 refine ⟨_, rfl, ?_⟩
 rw [hD] at hdr
 have Hg : 0 ≤ d → SH w0 S w _ := fun h => SH.call (L1 := [_, _]) (Lv := [⟨g, 109, tourCells t (nightL m A B (some ⟨bn, on, none⟩) l.length tl ns.length ca cb cc hd) s⟩]) H (hdr h)
 replace H := SH.call (L1 := [_, _]) (Lv := [⟨g, 109, tourCells t (nightL m A B (some ⟨bn, on, none⟩) l.length tl ns.length ca cb cc hd) s⟩]) H Hx
 clear hdr Hx
 rw [hD]
 refine Y.b rfl <| Y.z <| Y.qr <| Y.a rfl <| Y.v (Ev.neq rfl rfl) <| Y.z ?_
 refine WP.cond rfl (fun hc3 => ?_) (fun hc3 => ?_)
 ·have hdn : d < 0 := by
   rcases Int.lt_or_le d 0 with h | h
   ·exact h
   ·rw [driveE, if_neg (by omega)] at hc3; simp at hc3
  rw [driveE, if_pos hdn]
  clear Hg
  refine Y.qr <| Y.v (Ev.build (bld_111_ (e := fun _ => .int .i64 0))) <| Y.a rfl <| Y.ss 1 H rfl (cA rfl) rfl ?_
  clear H; intro w H
  refine Y.b rfl <| Y.z ?_
  refine WP.ret ⟨[_, _], ⟨(by exact resCellA 1 H rfl (agg_run rfl) (size_run rfl) (by rfl) rfl), rfl, trivial⟩, ?_⟩
  have he : visitE d t.cap ns[i] s = 15 := by rw [visitE, if_pos hdn]
  rw [he]
  exact ⟨by rw [if_neg (by decide)]; rfl, fun h => absurd h (by decide), _, H⟩
 have hdp : 0 ≤ d := by
  rcases Int.lt_or_le d 0 with h | h
  ·rw [driveE, if_pos h] at hc3; simp at hc3
  ·exact h
 replace H := Hg hdp
 clear Hg
 unfold tourCells truckCells nightL driveS at H
 simp only [List.cons_append, List.nil_append] at H
 refine Y.k <| Y.q <| Y.q <| WP.rquiet mixed (by kernel_rfl) H ?_
 clear H; intro w hbw5 H
 refine Y.v (Ev.mvP rfl) <| Y.v (Ev.nilCheckP rfl) <| Y.fa rfl rfl <| Y.j H 2 rfl rfl rfl <| Y.fa rfl rfl <| Y.j H 0 rfl rfl rfl <| Y.v (Y.p rfl rfl) <| Y.v (Ev.mvP rfl) <| Y.v (Ev.nilCheckP rfl) <| Y.fa rfl rfl <| Y.fa rfl rfl <| Y.j H 2 rfl rfl rfl <| OPS.callq rfl rfl rfl (EvC.func (fun_run rfl)) (fun w2 hb2 => truckIn _ _ _ _) ?_
 refine Y.v (Ev.not rfl) <| OPS.nilq H ?_
 clear H; intro w hbx5 H
 refine WP.cond rfl (fun hc5 => ?_) (fun hc5 => ?_)
 ·refine Y.qr <| Y.v (Ev.build (bld_111_ (e := fun _ => .int .i64 0))) <| Y.ss 1 H rfl (cA rfl) rfl ?_
  clear H; intro w H
  refine Y.b rfl <| Y.z ?_
  refine WP.ret ⟨[_, _], ⟨(by exact resCellA 1 H rfl (agg_run rfl) (size_run rfl) (by rfl) rfl), rfl, trivial⟩, ?_⟩
  have he : visitE d t.cap ns[i] s = 24 := by rw [visitE, if_neg (by omega), if_neg (by simpa using hc5)]
  rw [he]
  exact ⟨by rw [if_neg (by decide)]; rfl, fun h => absurd h (by decide), _, H⟩
 have hok5 : inB (s.load + ns[i].move) 0 t.cap = true := by simpa using hc5
 have he : visitE d t.cap ns[i] s = 0 := by rw [visitE, if_neg (by omega), if_pos hok5]
 rw [he]
 refine Y.k <| Y.qr <| Y.a rfl <| Y.v (Ev.mvP rfl) <| Y.v (Ev.nilCheckP rfl) <| Y.fa rfl rfl <| Y.j H 2 rfl rfl rfl <| Y.v (Ev.build (bld_111_0_1 rfl rfl)) <| Y.al H rfl rfl ?_
 clear H; intro g8 w H
 refine Y.ss 0 H rfl (cA rfl) rfl ?_
 clear H; intro w H
 refine Y.z <| Y.q <| WP.rtail 9 mixed (by kernel_rfl) H ?_
 clear H; intro w hbw8 H
 refine Y.v (Ev.mvP rfl) <| Y.v (Ev.nilCheckP rfl) <| Y.fa rfl rfl <| Y.j H 3 rfl rfl rfl <| Y.fa rfl rfl <| Y.j H 1 rfl rfl rfl <| Y.v (Y.p rfl rfl) <| Y.v (Ev.nilCheckP rfl) <| Y.fa rfl rfl <| OPS.nil_s <| Y.ss 3 H rfl (cI rfl) rfl ?_
 clear H; intro w H
 refine Y.z <| Y.q <| WP.rtail 19 mixed (by kernel_rfl) H ?_
 clear H; intro w hbw9 H
 refine Y.v (Ev.mvP rfl) <| Y.v (Ev.nilCheckP rfl) <| Y.fa rfl rfl <| Y.j H 3 rfl rfl rfl <| Y.fa rfl rfl <| Y.j H 1 rfl rfl rfl <| Y.fa rfl rfl <| Y.j H 1 rfl rfl rfl <| Y.v (Ev.neg rfl (by unfold fits; omega)) <| Y.v (Ev.max rfl rfl) <| Y.v (Ev.mvP rfl) <| Y.v (Ev.nilCheckP rfl) <| Y.fa rfl rfl <| Y.fa rfl rfl <| Y.j H 3 rfl rfl rfl <| Y.v (Ev.mul rfl rfl (by unfold fits; omega)) <| Y.v (Y.p rfl rfl) <| Y.v (Ev.nilCheckP rfl) <| Y.fa rfl rfl <| OPS.nil_s <| Y.ss 3 H rfl (cI rfl) rfl ?_
 clear H; intro w H
 refine Y.z <| Y.q ?_
 have Hf := H
 replace H := H.drop (L' := [_]) ((((List.Sublist.refl _).cons _).cons _).cons _)
 refine WP.rheldC [74, 75, 76, 77, 78, 79, 80, 81, 82, 83] (fun _ w' => SH w0 S w' [⟨g8, 111, visCells (visitV d hd i ns[i] s)⟩, ⟨g6, 67, [I v, I ns[i].move]⟩, ⟨g4, 111, [I 0, I 0, I 0, I 0]⟩, ⟨g, 109, tourCells t (nightL m A B (some ⟨bn, on, none⟩) l.length tl ns.length ca cb cc hd) (visitT d hd ns[i] s)⟩]) mixed H ?_ ?_
 ·clear H; intro w hbw10 H
  refine Y.t 0 H rfl rfl (fun w H => Ev.mvP rfl) <| Y.t 1 H rfl rfl (fun w H => Ev.nilCheckP rfl) <| Y.t 2 H rfl rfl (fun w H => Y.f rfl rfl) <| Y.t 3 H rfl rfl (fun w H => Y.l H 0 rfl rfl rfl) <| Y.t 4 H rfl rfl (fun w H => Ev.mvP rfl) <| Y.t 5 H rfl rfl (fun w H => Ev.nilCheckP rfl) <| Y.t 6 H rfl rfl (fun w H => Y.f rfl rfl) <| Y.t 7 H rfl rfl (fun w H => Y.l H 0 rfl rfl rfl) <| Y.t 8 H rfl rfl (fun w H => Y.f rfl rfl) <| Y.A1 9 rfl rfl ?_
  try replace Hf := Hf.toBelow hbw10
  refine Y.st 0 Hf rfl (cI rfl) rfl ?_
  clear H Hf; intro w Hf
  simp only [List.set_cons_zero, List.set_cons_succ, putL, Nat.zero_add] at Hf
  have H := Hf.drop (L' := [_]) ((((List.Sublist.refl _).cons _).cons _).cons _)
  refine Y.z <| ⟨(H), ?_⟩
  refine Y.t 10 H rfl rfl (fun w H => Y.f rfl rfl) <| Y.A1 11 rfl rfl ?_
  try replace Hf := Hf.toBelow hbw10
  refine Y.st 0 Hf rfl (cI rfl) rfl ?_
  clear H Hf; intro w Hf
  simp only [List.set_cons_zero, List.set_cons_succ, putL, Nat.zero_add] at Hf
  have H := Hf.drop (L' := [_]) ((((List.Sublist.refl _).cons _).cons _).cons _)
  refine Y.z <| ⟨(H), ?_⟩
  refine Y.dn ?_
  exact ⟨Y.ag, (by unfold visitT; rw [hvT]; exact Hf)⟩
 clear H
 rintro u w H
 refine Y.qr <| Y.v (Y.o H 0 rfl rfl) <| Y.ss 2 H rfl (cA rfl) rfl ?_
 clear H; intro w H
 refine Y.b rfl <| Y.z ?_
 refine WP.ret ⟨[_, _], ⟨(by exact resCellA 2 H rfl (agg_run rfl) (size_run rfl) (by rfl) rfl), rfl, trivial⟩, ?_⟩
 exact ⟨rfl, fun _ => H.drop (L' := [_]) ((((List.Sublist.refl _).cons _).cons _).cons _), _, H⟩
def homeE (d hd : Int) (t : Truck) (s : TS) : Int := if d < 0 then 15 else if t.to_ < s.now + d + s.load * hd then 25 else 0
def homeT (d hd : Int) (t : Truck) (s : TS) : TS := ⟨t.depot.toNat, s.now + d + s.load * hd, s.load, s.driven + d⟩
set_option maxHeartbeats 1000000 in
theorem tourHome (g m : Nat) (A B C : Option Addr) (l : List Edg) (tl nl ca cb cc : Nat) (hd : Int) (t : Truck) (s : TS) (w0 : World) (hok : RoadOk m l) (hs : s.at_ < m) (hb : -100000000000 ≤ s.now ∧ s.now ≤ 100000000000 ∧ -100000000000 ≤ s.driven ∧ s.driven ≤ 100000000000 ∧ -100000 ≤ s.load ∧ s.load ≤ 100000)
  (hx : 0 ≤ t.depot ∧ t.depot < m) (hh : 0 ≤ hd ∧ hd ≤ 3600)
  (hz : EdgsAt w0 A l) (hA : l ≠ [] → Off A [g]) (H0 : SH w0 [g] w0 [⟨g, 109, tourCells t (nightL m A B C l.length tl nl ca cb cc hd) s⟩]) :
  Calls Tryz.prog 46 #[.pointer (some ⟨g, 0, none⟩)] w0 fun e w' => e = .returned (I (homeE (roadT m l s.at_ t.depot.toNat) hd t s)) ∧
   (homeE (roadT m l s.at_ t.depot.toNat) hd t s = 0 → SH w0 [g] w' [⟨g, 109, tourCells t (nightL m A B C l.length tl nl ca cb cc hd) (homeT (roadT m l s.at_ t.depot.toNat) hd t s)⟩]) ∧ ∃ L, SH w0 [g] w' L := by
 have H := H0
 obtain ⟨v, hv⟩ := Int.eq_ofNat_of_zero_le hx.1
 have hvm : v < m := by omega
 have hvT : t.depot.toNat = v := by omega
 rw [hvT]
 have hbd := roadT_bd hok hs hvm
 generalize hD : roadT m l s.at_ v = d at *
 have hmul : -360000000 ≤ s.load * hd ∧ s.load * hd ≤ 360000000 := by
  have h1 : s.load * hd ≤ 100000 * hd := Int.mul_le_mul_of_nonneg_right hb.2.2.2.2.2 hh.1
  have h2 : -100000 * hd ≤ s.load * hd := Int.mul_le_mul_of_nonneg_right hb.2.2.2.2.1 hh.1
  omega
 unfold tourCells truckCells nightL at H
 simp only [List.cons_append, List.nil_append] at H
 rw [hv] at H
 refine Calls.ofWP Tryz.func46 rfl Tryz.results46 Tryz.ntmps46 rfl <| Y.qr <| Y.b rfl <| Y.z <| Y.q <| Y.qr <| Y.v (Ev.mvP rfl) <| Y.v (Ev.mvP rfl) <| Y.v (Ev.nilCheckP rfl) <| Y.fa rfl rfl <| Y.fa rfl rfl <| Y.j H 0 rfl rfl rfl <| OPS.call (d := some 10) rfl rfl rfl (EvC.func (fun_run rfl)) (tourDrive g m v A B C l tl nl ca cb cc hd t s w0 [g] hok hvm hs (by omega) hz hA H0) ?_
 rintro _ w ⟨rfl, Hg, Lx, Hx⟩
 refine ⟨_, rfl, ?_⟩
 rw [hD] at Hg
 replace H := Hx
 clear Hx
 rw [hD]
 refine Y.b rfl <| Y.z <| Y.qr <| Y.a rfl <| Y.v (Ev.neq rfl rfl) <| Y.z ?_
 refine WP.cond rfl (fun hc2 => ?_) (fun hc2 => ?_)
 ·have hdn : d < 0 := by
   rcases Int.lt_or_le d 0 with h | h
   ·exact h
   ·rw [driveE, if_neg (by omega)] at hc2; simp at hc2
  rw [driveE, if_pos hdn]
  clear Hg
  refine Y.qr <| Y.a rfl <| Y.b rfl <| Y.z ?_
  refine WP.ret ⟨_, rfl, ?_⟩
  have he : homeE d hd t s = 15 := by rw [homeE, if_pos hdn]
  rw [he]
  exact ⟨rfl, fun h => absurd h (by decide), _, H⟩
 have hdp : 0 ≤ d := by
  rcases Int.lt_or_le d 0 with h | h
  ·rw [driveE, if_pos h] at hc2; simp at hc2
  ·exact h
 replace H := Hg hdp
 clear Hg
 unfold tourCells truckCells nightL driveS at H
 simp only [List.cons_append, List.nil_append] at H
 refine Y.k <| Y.q <| WP.rtail 17 mixed (by kernel_rfl) H ?_
 clear H; intro w hbw4 H
 refine Y.v (Ev.mvP rfl) <| Y.v (Ev.nilCheckP rfl) <| Y.fa rfl rfl <| Y.j H 0 rfl rfl rfl <| Y.v (Ev.mvP rfl) <| Y.v (Ev.nilCheckP rfl) <| Y.fa rfl rfl <| Y.j H 0 rfl rfl rfl <| Y.v (Ev.mvP rfl) <| Y.v (Ev.nilCheckP rfl) <| Y.fa rfl rfl <| Y.fa rfl rfl <| Y.j H 0 rfl rfl rfl <| Y.v (Ev.mul rfl rfl (by unfold fits; omega)) <| Y.v (Y.p rfl rfl) <| Y.v (Ev.nilCheckP rfl) <| Y.fa rfl rfl <| OPS.nil_s <| Y.ss 0 H rfl (cI rfl) rfl ?_
 clear H; intro w H
 refine Y.z <| Y.q <| Y.q <| WP.rstill mixed (by kernel_rfl) H ?_
 clear H; intro w hbw5 H
 refine Y.v (Ev.mvP rfl) <| Y.v (Ev.nilCheckP rfl) <| Y.fa rfl rfl <| Y.j H 0 rfl rfl rfl <| Y.v (Ev.mvP rfl) <| Y.v (Ev.nilCheckP rfl) <| Y.fa rfl rfl <| Y.fa rfl rfl <| Y.fa rfl rfl <| Y.j H 0 rfl rfl rfl <| Y.v (Ev.gtr rfl rfl) <| OPS.nil_s ?_
 refine WP.cond rfl (fun hc5 => ?_) (fun hc5 => ?_)
 ·refine Y.qr <| Y.b rfl <| Y.z ?_
  refine WP.ret ⟨_, rfl, ?_⟩
  have hlt : t.to_ < s.now + d + s.load * hd := by simpa using hc5
  have he : homeE d hd t s = 25 := by rw [homeE, if_neg (by omega), if_pos hlt]
  rw [he]
  exact ⟨rfl, fun h => absurd h (by decide), _, H⟩
 refine Y.k <| Y.qr <| Y.b rfl <| Y.z ?_
 refine WP.ret ⟨_, rfl, ?_⟩
 have hlt : ¬ t.to_ < s.now + d + s.load * hd := by simpa using hc5
 have he : homeE d hd t s = 0 := by rw [homeE, if_neg (by omega), if_neg hlt]
 rw [he]
 exact ⟨rfl, fun _ => by unfold homeT; rw [hvT]; exact H, _, H⟩
end Go.Proofs.YthobaaefdehoiaaGreat

/-
 Walk: walk.
-/
set_option linter.all false
namespace Go.Proofs.YthobaaefdehoiaaGreat
open Go Go.W Go.RowKit
section
variable (D : Nat → Nat → Int) (cap hd : Int) (ns : List Need)
def needAt (i : Int) : Need := ns.getD i.toNat default
def goD (i : Int) (s : TS) : Int := D s.at_ (needAt ns i).node.toNat
def goT : List Int → TS → TS
 | [], s => s
 | i :: r, s => goT r (visitT (goD D ns i s) hd (needAt ns i) s)
def goE : List Int → TS → Int
 | [], _ => 0
 | i :: r, s => if visitE (goD D ns i s) cap (needAt ns i) s ≠ 0 then visitE (goD D ns i s) cap (needAt ns i) s else goE r (visitT (goD D ns i s) hd (needAt ns i) s)
def goV : List Int → TS → List Vis
 | [], _ => []
 | i :: r, s => visitV (goD D ns i s) hd i (needAt ns i) s :: goV r (visitT (goD D ns i s) hd (needAt ns i) s)
theorem goT_app : ∀ (a b : List Int) (s : TS), goT D hd ns (a ++ b) s = goT D hd ns b (goT D hd ns a s)
 | [], _, _ => rfl
 | _ :: a, b, s => goT_app a b _
theorem goV_app : ∀ (a b : List Int) (s : TS), goV D hd ns (a ++ b) s = goV D hd ns a s ++ goV D hd ns b (goT D hd ns a s)
 | [], _, _ => rfl
 | _ :: a, b, s => congrArg (_ :: ·) (goV_app a b _)
theorem goE_app : ∀ (a b : List Int) (s : TS), goE D cap hd ns (a ++ b) s = if goE D cap hd ns a s ≠ 0 then goE D cap hd ns a s else goE D cap hd ns b (goT D hd ns a s)
 | [], b, s => by simp [goE, goT]
 | i :: a, b, s => by
  have h := goE_app a b (visitT (goD D ns i s) hd (needAt ns i) s)
  show (if visitE (goD D ns i s) cap (needAt ns i) s ≠ 0 then visitE (goD D ns i s) cap (needAt ns i) s else goE D cap hd ns (a ++ b) (visitT (goD D ns i s) hd (needAt ns i) s)) = _
  rw [h]
  simp only [goE, goT]
  by_cases hv : visitE (goD D ns i s) cap (needAt ns i) s = 0
  ·simp [hv]
  ·simp [hv]
theorem goV_len : ∀ (a : List Int) (s : TS), (goV D hd ns a s).length = a.length
 | [], _ => rfl
 | _ :: a, s => congrArg (· + 1) (goV_len a _)
end
def startT (t : Truck) : TS := ⟨t.depot.toNat, t.from_, 0, 0⟩
def outB (k i : Int) : Bool := !inB i 0 (k - 1)
def routeErr (ts : List Truck) (ns : List Need) (rt : Int) (rn : List Int) : Int :=
 if outB ts.length rt = true ∨ rn.any (outB ns.length) = true then 7 else if twiceB rn = true then 6 else 0
noncomputable def roadD (n : Int) (l : List Edg) (a v : Nat) : Int := roadT n.toNat l a v
noncomputable def endT (n : Int) (l : List Edg) (ts : List Truck) (ns : List Need) (hd : Int) (rt : Int) (rn : List Int) : TS :=
 goT (roadD n l) hd ns rn (startT (ts.getD rt.toNat default))
noncomputable def walkE (n : Int) (l : List Edg) (ts : List Truck) (ns : List Need) (hd : Int) (rt : Int) (rn : List Int) : Int :=
 if nightErr n l ts ns hd ≠ 0 then nightErr n l ts ns hd else if routeErr ts ns rt rn ≠ 0 then routeErr ts ns rt rn
 else if goE (roadD n l) (ts.getD rt.toNat default).cap hd ns rn (startT (ts.getD rt.toNat default)) ≠ 0 then goE (roadD n l) (ts.getD rt.toNat default).cap hd ns rn (startT (ts.getD rt.toNat default))
 else homeE (roadD n l (endT n l ts ns hd rt rn).at_ (ts.getD rt.toNat default).depot.toNat) hd (ts.getD rt.toNat default) (endT n l ts ns hd rt rn)
noncomputable def walkT (n : Int) (l : List Edg) (ts : List Truck) (ns : List Need) (hd : Int) (rt : Int) (rn : List Int) : TS :=
 homeT (roadD n l (endT n l ts ns hd rt rn).at_ (ts.getD rt.toNat default).depot.toNat) hd (ts.getD rt.toNat default) (endT n l ts ns hd rt rn)
noncomputable def walkV (n : Int) (l : List Edg) (ts : List Truck) (ns : List Need) (hd : Int) (rt : Int) (rn : List Int) : List Vis :=
 goV (roadD n l) hd ns rn (startT (ts.getD rt.toNat default))
structure NightOk (m : Nat) (l : List Edg) (ts : List Truck) (ns : List Need) (hd : Int) : Prop where
 road : RoadOk m l
 tl : ts.length ≤ 8
 nl : ns.length ≤ 16
 tr : ∀ t ∈ ts, (0 ≤ t.depot ∧ t.depot < m) ∧ (1 ≤ t.cap ∧ t.cap ≤ 32) ∧ 0 ≤ t.from_ ∧ t.from_ ≤ t.to_ ∧ t.to_ ≤ 86400
 nd : ∀ x ∈ ns, (0 ≤ x.node ∧ x.node < m) ∧ x.move ≠ 0 ∧ -32 ≤ x.move ∧ x.move ≤ 32
 hh : 0 ≤ hd ∧ hd ≤ 3600
 one : (ns.map (·.node)).Nodup
theorem nightOk_of {n : Int} {l : List Edg} {ts : List Truck} {ns : List Need} {hd : Int} (h : nightErr n l ts ns hd = 0) : ∃ m : Nat, n = m ∧ NightOk m l ts ns hd := by
 unfold nightErr at h
 split at h
 ·rename_i h1; exact absurd h h1
 ·rename_i h1
  obtain ⟨m, rfl, hok⟩ := roadOk_of (by simpa using h1)
  split at h
  ·cases h
  ·rename_i h2
   split at h
   ·rename_i h3; exact absurd h h3
   ·rename_i h3
    split at h
    ·rename_i h4; exact absurd h h4
    ·rename_i h4
     split at h
     ·cases h
     ·rename_i h5
      split at h
      ·rename_i h6
       have h2' : ts.length ≤ 8 ∧ ns.length ≤ 16 := by simp [fullB] at h2; omega
       refine ⟨m, rfl, hok, h2'.1, h2'.2, fun t ht => ?_, fun x hx => ?_, by simpa [inB] using h6, ?_⟩
       ·have := trucksErr_ok (by simpa using h3) t ht
        simp [truckBad, truckRange, inB] at this
        omega
       ·have := needsErr_ok (by simpa using h4) x hx
        simp [needBad, needRange, inB] at this
        omega
       ·simpa [needTwice, twiceB] using h5
      ·cases h
theorem nodup_len {rn : List Int} {N : Nat} (h1 : rn.Nodup) (h2 : ∀ i ∈ rn, 0 ≤ i ∧ i < N) : rn.length ≤ N := by
 have h3 : (rn.map Int.toNat).Nodup := by
  rw [List.nodup_iff_pairwise_ne, List.pairwise_map]
  refine List.Pairwise.imp_of_mem ?_ (List.nodup_iff_pairwise_ne.1 h1)
  intro a b ha hb hne he
  have := h2 a ha
  have := h2 b hb
  omega
 have h4 : (rn.map Int.toNat).length ≤ (List.range N).length := by
  refine List.Nodup.length_le_of_subset h3 (fun x hx => ?_)
  obtain ⟨i, hi, rfl⟩ := List.mem_map.1 hx
  have := h2 i hi
  simp; omega
 simpa using h4
theorem routeOk_of {ts : List Truck} {ns : List Need} {rt : Int} {rn : List Int} (h : routeErr ts ns rt rn = 0) : (0 ≤ rt ∧ rt < ts.length) ∧ (∀ i ∈ rn, 0 ≤ i ∧ i < ns.length) ∧ rn.Nodup ∧ rn.length ≤ ns.length := by
 unfold routeErr at h
 split at h
 ·cases h
 ·rename_i h1
  split at h
  ·cases h
  ·rename_i h2
   have h3 : rn.Nodup := by simpa [twiceB] using h2
   have h4 : ∀ i ∈ rn, 0 ≤ i ∧ i < ns.length := fun i hi => by
    have h5 : outB ns.length i = false := by
     cases hc : outB ns.length i with
     | true => exact absurd (Or.inr (List.any_eq_true.2 ⟨i, hi, hc⟩)) h1
     | false => rfl
    simp [outB, inB] at h5; omega
   refine ⟨?_, h4, h3, nodup_len h3 h4⟩
   have h5 : outB ts.length rt = false := by
    cases hc : outB ts.length rt with
    | true => exact absurd (Or.inl hc) h1
    | false => rfl
   simp [outB, inB] at h5; omega
structure TSOk (m : Nat) (cap : Int) (j : Nat) (s : TS) : Prop where
 at_ : s.at_ < m
 now : 0 ≤ s.now ∧ s.now ≤ 86400 + 200000 * j
 driven : 0 ≤ s.driven ∧ s.driven ≤ 64000 * j
 load : 0 ≤ s.load ∧ s.load ≤ cap
end Go.Proofs.YthobaaefdehoiaaGreat
