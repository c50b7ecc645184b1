/-
 Walk: walk.
-/
import Derived.Test.YthobaaefdehoiaaGreatT2
import Derived.Test.YthobaaefdehoiaaGreatPtr
import Derived.Test.YthobaaefdehoiaaGreatFacts
set_option linter.all false
namespace Go.Proofs.YthobaaefdehoiaaGreat
open Go Go.W Go.RowKit
theorem visitE_ok {d cap : Int} {x : Need} {s : TS} (h : visitE d cap x s = 0) : 0 ≤ d ∧ 0 ≤ s.load + x.move ∧ s.load + x.move ≤ cap := by
 unfold visitE at h
 split at h
 ·cases h
 ·split at h
  ·rename_i h1 h2
   simp [inB] at h2
   omega
  ·cases h
theorem TSOk.step {m j : Nat} {l : List Edg} {cap hd : Int} {x : Need} {s : TS} (h : TSOk m cap j s) (hok : RoadOk m l) (hx : (0 ≤ x.node ∧ x.node < m) ∧ x.move ≠ 0 ∧ -32 ≤ x.move ∧ x.move ≤ 32) (hh : 0 ≤ hd ∧ hd ≤ 3600) (hv : visitE (roadT m l s.at_ x.node.toNat) cap x s = 0) : TSOk m cap (j + 1) (visitT (roadT m l s.at_ x.node.toNat) hd x s) := by
 obtain ⟨h1, h2, h3⟩ := visitE_ok hv
 have hbd := roadT_bd hok h.at_ (v := x.node.toNat) (by omega)
 generalize roadT m l s.at_ x.node.toNat = d at *
 have hxa : 0 ≤ absI x.move ∧ absI x.move ≤ 32 := by unfold absI; split <;> omega
 have hmul : 0 ≤ absI x.move * hd ∧ absI x.move * hd ≤ 115200 := by
  refine ⟨Int.mul_nonneg hxa.1 hh.1, ?_⟩
  calc absI x.move * hd ≤ 32 * hd := Int.mul_le_mul_of_nonneg_right hxa.2 hh.1
   _ ≤ 115200 := by omega
 have := h.now
 have := h.driven
 refine ⟨?_, ?_, ?_, ?_⟩
 ·show x.node.toNat < m; omega
 ·show 0 ≤ s.now + d + absI x.move * hd ∧ s.now + d + absI x.move * hd ≤ 86400 + 200000 * ((j + 1 : Nat) : Int)
  omega
 ·show 0 ≤ s.driven + d ∧ s.driven + d ≤ 64000 * ((j + 1 : Nat) : Int)
  omega
 ·exact ⟨h2, h3⟩
theorem TSOk.start {m : Nat} {t : Truck} (h : (0 ≤ t.depot ∧ t.depot < m) ∧ (1 ≤ t.cap ∧ t.cap ≤ 32) ∧ 0 ≤ t.from_ ∧ t.from_ ≤ t.to_ ∧ t.to_ ≤ 86400) : TSOk m t.cap 0 (startT t) := by
 refine ⟨?_, ?_, ?_, ?_⟩
 ·show t.depot.toNat < m; omega
 ·show 0 ≤ t.from_ ∧ t.from_ ≤ 86400 + 200000 * ((0 : Nat) : Int); omega
 ·show (0 : Int) ≤ 0 ∧ (0 : Int) ≤ 64000 * ((0 : Nat) : Int); omega
 ·show (0 : Int) ≤ 0 ∧ 0 ≤ t.cap; omega
theorem rot3 {a b c : Blk} {Lo : List Blk} : ([a, b, c] ++ Lo).Perm (([b, c] ++ Lo) ++ [a]) := (List.perm_append_singleton a ([b, c] ++ Lo)).symm
theorem rot4 {v a b c : Blk} {Lo : List Blk} : (v :: (([b, c] ++ Lo) ++ [a])).Perm ([v, a, b, c] ++ Lo) := List.Perm.cons _ (List.perm_append_singleton a ([b, c] ++ Lo))
theorem truckWalkF (i : Int) (g k cc : Nat) (C : Option Addr) (w0 : World) (hk : k ≤ 1000) (hc : w0.cell? ⟨g, 3, none⟩ = some (.slice C k cc)) :
  Calls Tryz.prog 44 #[I i, .pointer (some ⟨g, 0, none⟩)] w0 fun e w' => e = .returned (.bool (outB k i)) ∧ Below w0.heap.size w0 w' := by
 have H := SH.refl w0
 refine Calls.ofWP Tryz.func44 rfl Tryz.results44 Tryz.ntmps44 rfl <| Y.qr <| Y.v (Ev.asB rfl) <| Y.z <| Y.qr <| Y.a rfl <| Y.fa rfl rfl <| Y.v (Y.c (H.ld0 (by assumption)) rfl) ?_
 refine Y.v (Y.n rfl) <| Y.v (Y.s rfl rfl) <| OPS.call (d := some 9) rfl rfl rfl (EvC.func (fun_run rfl)) (truckIn _ _ _ _) ?_
 rintro _ w ⟨rfl, hb⟩
 refine ⟨_, rfl, ?_⟩
 replace H := H.toBelow hb; clear hb
 refine Y.v (Ev.not rfl) <| Y.v (Ev.asB rfl) <| Y.z ?_
 refine WP.ret ⟨_, rfl, ?_⟩
 exact ⟨rfl, H.below⟩
set_option maxHeartbeats 1000000 in
theorem truckWalk (n hd rt : Int) (A B C R : Option Addr) (l : List Edg) (ts : List Truck) (ns : List Need) (rn : List Int) (ca cb cc cr : Nat) (w0 : World) (hz : EdgsAt w0 A l) (ht : RowsAt 4 truckCells w0 B ts) (hn : RowsAt 2 needCells w0 C ns) (hcc : ns.length ≤ cc) (hr : IntsAt w0 R rn) (hrl : rn.length ≤ maxLen) (hrc : rn.length ≤ cr) :
  Calls Tryz.prog 26 #[.agg #[I n, .slice A l.length ca, .slice B ts.length cb, .slice C ns.length cc, I hd], .agg #[I rt, .slice R rn.length cr]] w0 fun e w' =>
   (walkE n l ts ns hd rt rn ≠ 0 → e = .returned (.tuple #[.pointer none, .slice none 0 0, I (walkE n l ts ns hd rt rn)]) ∧ SH w0 [] w' []) ∧
   (walkE n l ts ns hd rt rn = 0 → ∃ (g m : Nat) (V : Option Addr) (cv : Nat) (Lv : List Blk), n = m ∧ e = .returned (.tuple #[.pointer (some ⟨g, 0, none⟩), .slice V rn.length cv, I 0]) ∧ OwnS V cv rn.length ((walkV n l ts ns hd rt rn).flatMap visCells) 111 4 Lv ∧
    SH w0 [] w' ([⟨g, 109, tourCells (ts.getD rt.toNat default) (nightL m A B C l.length ts.length ns.length ca cb cc hd) (walkT n l ts ns hd rt rn)⟩] ++ Lv)) := by
 have H := SH.refl w0
 refine Calls.ofWP Tryz.func26 rfl Tryz.results26 Tryz.ntmps26 rfl <| Y.qr <| Y.bx (cA rfl) H ?_
 clear H; intro g2 w H
 refine Y.bx (cA rfl) H ?_
 clear H; intro g3 w H
 refine Y.v (Ev.asP rfl) <| Y.v (Ev.asS rfl) <| Y.b rfl <| Y.z <| Y.q <| Y.qr <| Y.v (Y.o H 1 rfl rfl) <| OPS.call (d := some 16) rfl rfl rfl (EvC.func (fun_run rfl)) (truckCheck n hd A B C l ts ns ca cb cc w (hz.sh H) (ht.sh H) (hn.sh H) hcc) ?_
 rintro _ w ⟨rfl, hb⟩
 refine ⟨_, rfl, ?_⟩
 replace H := H.toBelow hb; clear hb
 refine Y.b rfl <| Y.z <| Y.qr <| Y.a rfl <| Y.v (Ev.neq rfl rfl) <| Y.z ?_
 refine WP.cond rfl (fun hc2 => ?_) (fun hc2 => ?_)
 ·refine Y.qr <| Y.a rfl <| Y.v (Ev.asP rfl) <| Y.v (Ev.asS rfl) <| Y.b rfl <| Y.z ?_
  refine WP.ret ⟨_, rfl, ?_⟩
  have h : nightErr n l ts ns hd ≠ 0 := by simpa using hc2
  have he : walkE n l ts ns hd rt rn = nightErr n l ts ns hd := by rw [walkE, if_pos h]
  rw [he]
  exact ⟨fun _ => ⟨rfl, H.reidx [] (by decide) rfl⟩, fun h2 => absurd h2 h⟩
 have h0 : nightErr n l ts ns hd = 0 := by simpa using hc2
 obtain ⟨m, rfl, hN⟩ := nightOk_of h0
 have htl := hN.tl
 have hnl := hN.nl
 have hh := hN.hh
 refine Y.k <| Y.q <| Y.qr <| Y.fa rfl rfl <| Y.j H 0 rfl rfl rfl <| Y.fa rfl rfl <| Y.j H 1 rfl rfl rfl <| Y.v (Y.n rfl) <| Y.v (Y.s rfl rfl) <| OPS.call (d := some 26) rfl rfl rfl (EvC.func (fun_run rfl)) (truckIn _ _ _ _) ?_
 rintro _ w ⟨rfl, hb⟩
 refine ⟨_, rfl, ?_⟩
 replace H := H.toBelow hb; clear hb
 refine Y.v (Ev.not rfl) <| Y.v (Ev.mvB rfl) <| Y.g rfl rfl (fun hg => Y.f rfl rfl) <| Y.y rfl rfl H 0 (fun hg => gvE hg rfl) rfl rfl <| Y.g rfl rfl (fun hg => Ev.makeFunc) <| OPS.gcall0 (f := 43) (slContainsFuncI R rn cr _ [.pointer (some ⟨g2, 0, none⟩)] (outB ns.length) _ (hr.sh H) hrl rfl (fun i _ w2 hb => truckWalkF i g2 ns.length cc C w2 (by omega) (cell_below hb (H.ldL 1 rfl 3 rfl)))) (fun _ _ h => h) rfl rfl rfl rfl rfl (fun hg => EvC.conv (EvC.func (fun_run rfl)) (l2 (gvE hg rfl) (gvE hg rfl))) ?_
 intro w hbc; replace H := H.toBelow hbc
 refine Y.v (Ev.pickOr rfl rfl rfl) <| Y.z ?_
 refine WP.cond rfl (fun hc4 => ?_) (fun hc4 => ?_)
 ·refine Y.qr <| Y.v (Ev.asP rfl) <| Y.v (Ev.asS rfl) <| Y.b rfl <| Y.z ?_
  refine WP.ret ⟨_, rfl, ?_⟩
  have he : routeErr ts ns rt rn = 7 := by
   unfold routeErr
   rw [if_pos]
   simpa [outB] using hc4
  have hw : walkE m l ts ns hd rt rn = 7 := by rw [walkE, if_neg (by simp [h0]), if_pos (by rw [he]; decide), he]
  rw [hw]
  exact ⟨fun _ => ⟨rfl, H.reidx [] (by decide) rfl⟩, fun h2 => absurd h2 (by decide)⟩
 refine Y.k <| Y.q <| Y.qr <| Y.fa rfl rfl <| Y.j H 0 rfl rfl rfl <| OPS.call (d := some 36) rfl rfl rfl (EvC.func (fun_run rfl)) (truckTwice R rn cr _ (hr.sh H) hrl hrc) ?_
 rintro _ w ⟨rfl, hb⟩
 refine ⟨_, rfl, ?_⟩
 replace H := H.toBelow hb; clear hb
 refine Y.z ?_
 refine WP.cond rfl (fun hc6 => ?_) (fun hc6 => ?_)
 ·refine Y.qr <| Y.v (Ev.asP rfl) <| Y.v (Ev.asS rfl) <| Y.b rfl <| Y.z ?_
  refine WP.ret ⟨_, rfl, ?_⟩
  have he : routeErr ts ns rt rn = 6 := by
   unfold routeErr
   rw [if_neg (by simpa [outB] using hc4), if_pos hc6]
  have hw : walkE m l ts ns hd rt rn = 6 := by rw [walkE, if_neg (by simp [h0]), if_pos (by rw [he]; decide), he]
  rw [hw]
  exact ⟨fun _ => ⟨rfl, H.reidx [] (by decide) rfl⟩, fun h2 => absurd h2 (by decide)⟩
 have he0 : routeErr ts ns rt rn = 0 := by
  unfold routeErr
  rw [if_neg (by simpa [outB] using hc4), if_neg (by simpa using hc6)]
 obtain ⟨hrt, hrr, hrd, hrlen⟩ := routeOk_of he0
 obtain ⟨q, rfl⟩ := Int.eq_ofNat_of_zero_le hrt.1
 have hq : q < ts.length := by omega
 have hgt : ts.getD (q : Int).toNat default = ts[q] := by simp [hq]
 obtain ⟨bt, ot, rfl, htc⟩ := ht q hq
 have htr := hN.tr ts[q] (List.getElem_mem hq)
 rw [hgt]
 have hw : walkE m l ts ns hd q rn = if goE (roadD m l) ts[q].cap hd ns rn (startT ts[q]) ≠ 0 then goE (roadD m l) ts[q].cap hd ns rn (startT ts[q]) else homeE (roadD m l (goT (roadD m l) hd ns rn (startT ts[q])).at_ ts[q].depot.toNat) hd ts[q] (goT (roadD m l) hd ns rn (startT ts[q])) := by
  rw [walkE, if_neg (by simp [h0]), if_neg (by simp [he0])]
  unfold endT
  rw [hgt]
 have hwT : walkT m l ts ns hd q rn = homeT (roadD m l (goT (roadD m l) hd ns rn (startT ts[q])).at_ ts[q].depot.toNat) hd ts[q] (goT (roadD m l) hd ns rn (startT ts[q])) := by
  unfold walkT endT
  rw [hgt]
 have hwV : walkV m l ts ns hd q rn = goV (roadD m l) hd ns rn (startT ts[q]) := by
  unfold walkV
  rw [hgt]
 rw [hw, hwT, hwV]
 clear hw hwT hwV
 obtain ⟨dv, hdv⟩ := Int.eq_ofNat_of_zero_le htr.1.1
 generalize htt : ts[q] = t at *
 refine Y.k <| Y.q <| WP.rtail 8 mixed (by kernel_rfl) H ?_
 clear H; intro w hbw8 H
 refine Y.fa rfl rfl <| Y.j H 1 rfl rfl rfl <| Y.fa rfl rfl <| Y.j H 0 rfl rfl rfl <| Y.v (Y.X rfl rfl rfl rfl rfl) ?_
 have htc' := cellsAt_sh H htc
 refine Y.v (by (change Ev _ _ _ _ (Op.load 64 (Operand.tmp 41)) _; exact Ev.loadN (truckCells t) (agg_run rfl) (size_run rfl) rfl htc')) <| Y.v (Y.o H 1 rfl rfl) <| Y.v (Ev.build (bld_109_0_1 rfl rfl)) <| OPS.nil_s <| Y.bx (cA rfl) H ?_
 clear H; intro g45 w H
 refine Y.v (Ev.asP rfl) <| Y.z <| Y.q ?_
 have Hf := H
 replace H := H.drop (L' := [_, _]) (List.sublist_cons_self _ _)
 refine WP.rheldC [46, 47, 48, 49, 50, 51, 52, 53, 54, 55, 56, 57, 58, 59, 60, 61, 62] (fun _ w' => SH w0 [] w' [⟨g45, 109, tourCells t (nightL m A (some ⟨bt, ot, none⟩) C l.length ts.length ns.length ca cb cc hd) (startT t)⟩, ⟨g3, 50, [I q, .slice R rn.length cr]⟩, ⟨g2, 28, [I m, .slice A l.length ca, .slice (some ⟨bt, ot, none⟩) ts.length cb, .slice C ns.length cc, I hd]⟩]) mixed H ?_ ?_
 ·clear H; intro w hbw9 H
  refine Y.t 0 H rfl rfl (fun w H => Ev.mvP rfl) <| Y.t 1 H rfl rfl (fun w H => Ev.mvP rfl) <| Y.t 2 H rfl rfl (fun w H => Ev.mvP rfl) <| Y.t 3 H rfl rfl (fun w H => Ev.nilCheckP rfl) <| Y.t 4 H rfl rfl (fun w H => Y.f rfl rfl) <| Y.t 5 H rfl rfl (fun w H => Y.f rfl rfl) <| Y.t 7 H rfl rfl (fun w H => Ev.mvP rfl) <| Y.t 8 H rfl rfl (fun w H => Ev.nilCheckP rfl) <| Y.t 9 H rfl rfl (fun w H => Y.f rfl rfl) <| Y.t 10 H rfl rfl (fun w H => Y.f rfl rfl) <| Y.t 11 H rfl rfl (fun w H => Y.f rfl rfl) ?_
  refine Y.A2 6 12 rfl rfl rfl ?_ ?_
  ·try replace Hf := Hf.toBelow hbw9
   refine Y.v (Y.l Hf 0 rfl rfl rfl) <| Y.z <| ⟨(H), ?_⟩
   refine Y.A1 12 rfl rfl ?_
   try replace Hf := Hf.toBelow hbw9
   refine Y.v (Y.l Hf 0 rfl rfl rfl) <| Y.z <| ⟨(H), ?_⟩
   refine Y.t 13 H rfl rfl (fun w H => Ev.nilCheckP rfl) <| Y.t 14 H rfl rfl (fun w H => Y.f rfl rfl) <| Y.A1 15 rfl rfl ?_
   try replace Hf := Hf.toBelow hbw9
   refine Y.st 0 Hf rfl (cI rfl) rfl ?_
   clear H Hf; intro w Hf
   simp only [List.set_cons_zero, List.set_cons_succ, putL, Nat.zero_add] at Hf
   have H := Hf.drop (L' := [_, _]) (List.sublist_cons_self _ _)
   refine Y.z <| ⟨(H), ?_⟩
   refine Y.t 16 H rfl rfl (fun w H => Ev.nilCheckP rfl) <| Y.t 17 H rfl rfl (fun w H => Y.f rfl rfl) <| Y.A1 18 rfl rfl ?_
   try replace Hf := Hf.toBelow hbw9
   refine Y.st 0 Hf rfl (cI rfl) rfl ?_
   clear H Hf; intro w Hf
   simp only [List.set_cons_zero, List.set_cons_succ, putL, Nat.zero_add] at Hf
   have H := Hf.drop (L' := [_, _]) (List.sublist_cons_self _ _)
   refine Y.z <| ⟨(H), ?_⟩
   refine Y.dn ?_
   exact ⟨Y.ag, (by rw [hdv] at Hf; unfold startT tourCells truckCells; rw [hdv, Int.toNat_natCast]; exact Hf)⟩
  ·try replace Hf := Hf.toBelow hbw9
   refine Y.v (Y.l Hf 0 rfl rfl rfl) <| Y.z <| ⟨(H), ?_⟩
   refine Y.A1 6 rfl rfl ?_
   try replace Hf := Hf.toBelow hbw9
   refine Y.v (Y.l Hf 0 rfl rfl rfl) <| Y.z <| ⟨(H), ?_⟩
   refine Y.t 13 H rfl rfl (fun w H => Ev.nilCheckP rfl) <| Y.t 14 H rfl rfl (fun w H => Y.f rfl rfl) <| Y.A1 15 rfl rfl ?_
   try replace Hf := Hf.toBelow hbw9
   refine Y.st 0 Hf rfl (cI rfl) rfl ?_
   clear H Hf; intro w Hf
   simp only [List.set_cons_zero, List.set_cons_succ, putL, Nat.zero_add] at Hf
   have H := Hf.drop (L' := [_, _]) (List.sublist_cons_self _ _)
   refine Y.z <| ⟨(H), ?_⟩
   refine Y.t 16 H rfl rfl (fun w H => Ev.nilCheckP rfl) <| Y.t 17 H rfl rfl (fun w H => Y.f rfl rfl) <| Y.A1 18 rfl rfl ?_
   try replace Hf := Hf.toBelow hbw9
   refine Y.st 0 Hf rfl (cI rfl) rfl ?_
   clear H Hf; intro w Hf
   simp only [List.set_cons_zero, List.set_cons_succ, putL, Nat.zero_add] at Hf
   have H := Hf.drop (L' := [_, _]) (List.sublist_cons_self _ _)
   refine Y.z <| ⟨(H), ?_⟩
   refine Y.dn ?_
   exact ⟨Y.ag, (by rw [hdv] at Hf; unfold startT tourCells truckCells; rw [hdv, Int.toNat_natCast]; exact Hf)⟩
 clear H
 rintro u w H
 refine Y.qr <| Y.v (Ev.asS rfl) <| Y.z <| Y.q <| Y.qr <| Y.fa rfl rfl <| Y.j H 1 rfl rfl rfl <| Y.v (Y.n rfl) <| Y.a rfl <| Y.z <| WP.block <| WP.loop [4, 5, 6, 9, 11, 12, 13, 66, 67, 68, 69, 70, 71, 72, 73, 74, 75, 76, 77, 78, 79, 80, 81, 82, 83] (fun k e w' => ∃ (j : Nat) (s : TS) (V : Option Addr) (cv : Nat) (Lo : List Blk), j + k = rn.length ∧ e 66 = I j ∧ e 9 = .slice V j cv ∧ OwnS V cv j ((goV (roadD m l) hd ns (rn.take j) (startT t)).flatMap visCells) 111 4 Lo ∧ goT (roadD m l) hd ns (rn.take j) (startT t) = s ∧ goE (roadD m l) t.cap hd ns (rn.take j) (startT t) = 0 ∧ TSOk m t.cap j s ∧ SH w0 [] w' ([⟨g45, 109, tourCells t (nightL m A (some ⟨bt, ot, none⟩) C l.length ts.length ns.length ca cb cc hd) (s)⟩, ⟨g3, 50, [I q, .slice R rn.length cr]⟩, ⟨g2, 28, [I m, .slice A l.length ca, .slice (some ⟨bt, ot, none⟩) ts.length cb, .slice C ns.length cc, I hd]⟩] ++ Lo)) (rn.length) (⟨0, startT t, none, 0, [], by omega, rfl, rfl, OwnS.nil, rfl, rfl, TSOk.start htr, by simpa using H⟩) ?_
 clear H
 rintro k u w ⟨j, s, V, cv, Lo, hk, h66, h9, hO, hgT, hgE, hS, H⟩
 refine WP.know (t := 66) h66 (WP.know (t := 9) h9 ?_)
 have hg45 : w0.heap.size ≤ g45 := by
  rcases H.may ⟨g45, 109, tourCells t (nightL m A (some ⟨bt, ot, none⟩) C l.length ts.length ns.length ca cb cc hd) (s)⟩ (by simp) with h | h
  ·exact h
  ·cases h
 have hA : l ≠ [] → Off A [g45] := hz.off (fun x => by simp [edgCells]) (fun g hg => by simp at hg; subst hg; exact hg45)
 have hC : ns ≠ [] → Off C [g45] := hn.off (fun x => by simp [needCells]) (fun g hg => by simp at hg; subst hg; exact hg45)
 have hjn : j ≤ 16 := by omega
 have hSn := hS.now
 have hSd := hS.driven
 have hSl := hS.load
 have htc2 := htr.2.1
 refine Y.qr <| Y.v (Ev.lss rfl rfl) <| Y.z <| Y.q ?_
 refine WP.cond rfl (fun hc12 => ?_) (fun hc12 => ?_)
 ·have hlt : j < rn.length := by simp at hc12; omega
  obtain ⟨hi0, hi1⟩ := hrr rn[j] (List.getElem_mem hlt)
  obtain ⟨ni, hni⟩ := Int.eq_ofNat_of_zero_le hi0
  have hnl2 : ni < ns.length := by omega
  have hnx := hN.nd ns[ni] (List.getElem_mem hnl2)
  obtain ⟨br, orr, rfl, hx⟩ := hr j hlt
  rw [hni] at hx
  have hna : needAt ns rn[j] = ns[ni] := by rw [hni]; simp [needAt, hnl2]
  have hgD : goD (roadD m l) ns rn[j] s = roadT m l s.at_ ns[ni].node.toNat := by unfold goD roadD; rw [hna]; simp
  have htk : rn.take (j + 1) = rn.take j ++ [rn[j]] := List.take_succ_eq_append_getElem hlt
  have hE1 : goE (roadD m l) t.cap hd ns (rn.take (j + 1)) (startT t) = visitE (roadT m l s.at_ ns[ni].node.toNat) t.cap ns[ni] s := by
   rw [htk, goE_app, hgE, hgT]
   simp only [goE, hgD, hna]
   by_cases h : visitE (roadT m l s.at_ ns[ni].node.toNat) t.cap ns[ni] s = 0 <;> simp [h]
  refine Y.k <| Y.q <| WP.block <| Y.qr <| Y.v (Y.x rfl rfl rfl rfl) <| Y.v (Y.c (H.ld0 (by assumption)) rfl) ?_
  refine Y.b rfl <| Y.z <| Y.q ?_
  replace H := H.perm rot3
  refine Y.r <| Y.v (Ev.mvP rfl) <| Y.a rfl <| OPS.call (d := some 73) rfl rfl rfl (EvC.func (fun_run rfl)) (tourVisit g45 m ni A (some ⟨bt, ot, none⟩) C l ns ts.length ca cb cc hd t s w [g45] hN.road hS.at_ (by omega) hnl2 (by omega) hh (hz.sh H) hA (hn.sh H) hC (H.restart (Lv := [_]) (List.sublist_append_right _ _)) rfl) ?_
  rintro _ w ⟨rfl, hg, Lx, Hx⟩
  refine ⟨_, rfl, ?_⟩
  obtain ⟨L', hL', HL⟩ : ∃ L' : List Blk, (visitE (roadT m l s.at_ ns[ni].node.toNat) t.cap ns[ni] s = 0 → L' = [⟨g45, 109, tourCells t (nightL m A (some ⟨bt, ot, none⟩) C l.length ts.length ns.length ca cb cc hd) (visitT (roadT m l s.at_ ns[ni].node.toNat) hd ns[ni] s)⟩]) ∧ SH _ [g45] w L' := by
   by_cases h : visitE (roadT m l s.at_ ns[ni].node.toNat) t.cap ns[ni] s = 0
   ·exact ⟨_, fun _ => rfl, hg h⟩
   ·exact ⟨Lx, fun h2 => absurd h2 h, Hx⟩
  replace H := SH.call (L1 := [_, _] ++ Lo) (Lv := [_]) H HL
  clear hg Hx HL
  refine Y.v (Ev.mvT rfl) <| Y.v (Ev.extract rfl rfl) <| Y.v (Ev.extract rfl rfl) <| Y.al H rfl rfl ?_
  clear H; intro g12 w H
  refine Y.ss 0 H rfl (cA rfl) rfl ?_
  clear H; intro w H
  refine Y.b rfl <| Y.z <| Y.q <| Y.qr <| Y.a rfl <| Y.v (Ev.neq rfl rfl) <| Y.z ?_
  refine WP.cond rfl (fun hc15 => ?_) (fun hc15 => ?_)
  ·have hv : visitE (roadT m l s.at_ ns[ni].node.toNat) t.cap ns[ni] s ≠ 0 := by simpa using hc15
   have hEn : goE (roadD m l) t.cap hd ns rn (startT t) = visitE (roadT m l s.at_ ns[ni].node.toNat) t.cap ns[ni] s := by
    have h := goE_app (roadD m l) t.cap hd ns (rn.take (j + 1)) (rn.drop (j + 1)) (startT t)
    rw [List.take_append_drop, hE1, if_pos hv] at h; exact h
   refine Y.qr <| Y.a rfl <| Y.v (Ev.asP rfl) <| Y.v (Ev.asS rfl) <| Y.b rfl <| Y.z ?_
   refine WP.ret ⟨_, rfl, ?_⟩
   rw [hEn, if_pos hv]
   exact ⟨fun _ => ⟨rfl, H.reidx [] (by decide) rfl⟩, fun h2 => absurd h2 hv⟩
  have hv : visitE (roadT m l s.at_ ns[ni].node.toNat) t.cap ns[ni] s = 0 := by simpa using hc15
  rw [hL' hv, if_pos hv] at H
  replace H := H.perm rot4
  have hS1 := hS.step hN.road hnx hh hv
  refine Y.k <| Y.r <| Y.v (Ev.mvS rfl) <| Y.v (Y.o H 0 rfl rfl) <| OPS.buildSlice rfl rfl rfl rfl (bsl_77_1_0 rfl) H ?_
  clear H; intro g81 w H
  refine OPS.append (m := 1) (news := visCells (visitV (roadT m l s.at_ ns[ni].node.toNat) hd ni ns[ni] s)) (R := [⟨g81, 111, visCells (visitV (roadT m l s.at_ ns[ni].node.toNat) hd ni ns[ni] s)⟩, ⟨g12, 111, visCells (visitV (roadT m l s.at_ ns[ni].node.toNat) hd ni ns[ni] s)⟩, ⟨g45, 109, tourCells t (nightL m A (some ⟨bt, ot, none⟩) C l.length ts.length ns.length ca cb cc hd) (visitT (roadT m l s.at_ ns[ni].node.toNat) hd ns[ni] s)⟩, ⟨g3, 50, [I q, .slice (some ⟨br, orr, none⟩) rn.length cr]⟩, ⟨g2, 28, [I m, .slice A l.length ca, .slice (some ⟨bt, ot, none⟩) ts.length cb, .slice C ns.length cc, I hd]⟩]) rfl rfl rfl rfl rfl (sl_run rfl) rfl rfl hO rfl (src_own H 0 rfl) rfl (by omega) (by unfold maxLen; omega) H (List.Perm.refl _) ?_
  clear H hO; intro V cv Lo w hO H
  refine Y.v (Ev.asS rfl) <| Y.z <| Y.r <| Y.v (Y.p rfl rfl) <| Y.a rfl <| Y.z ?_
  have hT1 : goT (roadD m l) hd ns (rn.take (j + 1)) (startT t) = visitT (roadT m l s.at_ ns[ni].node.toNat) hd ns[ni] s := by rw [htk, goT_app, hgT]; simp only [goT, hgD, hna]
  have hV1 : goV (roadD m l) hd ns (rn.take (j + 1)) (startT t) = goV (roadD m l) hd ns (rn.take j) (startT t) ++ [visitV (roadT m l s.at_ ns[ni].node.toNat) hd ni ns[ni] s] := by rw [htk, goV_app, hgT]; (simp only [goV, hgD, hna]; rw [hni])
  exact ⟨Y.ag, k - 1, by omega, j + 1, visitT (roadT m l s.at_ ns[ni].node.toNat) hd ns[ni] s, V, cv, Lo, by omega, rfl, rfl, (by rw [hV1, List.flatMap_append]; simpa using hO), hT1, (by rw [hE1]; exact hv), hS1, H.drop (((List.Sublist.refl _).cons _).cons _)⟩
 have hj : j = rn.length := by simp at hc12; omega
 subst hj
 rw [List.take_length] at hgT hgE hO
 rw [hgE, if_neg (by simp), hgT, show roadD m l s.at_ t.depot.toNat = roadT m l s.at_ t.depot.toNat from by unfold roadD; simp]
 replace H := H.perm rot3
 refine WP.exit <| XB.hit <| Y.q <| Y.qr <| Y.v (Ev.mvP rfl) <| OPS.call (d := some 85) rfl rfl rfl (EvC.func (fun_run rfl)) (tourHome g45 m A (some ⟨bt, ot, none⟩) C l ts.length ns.length ca cb cc hd t s w hN.road hS.at_ (by omega) htr.1 hh (hz.sh H) hA (H.restart (Lv := [_]) (List.sublist_append_right _ _))) ?_
 rintro _ w ⟨rfl, hg, Lx, Hx⟩
 refine ⟨_, rfl, ?_⟩
 obtain ⟨L', hL', HL⟩ : ∃ L' : List Blk, (homeE (roadT m l s.at_ t.depot.toNat) hd t s = 0 → L' = [⟨g45, 109, tourCells t (nightL m A (some ⟨bt, ot, none⟩) C l.length ts.length ns.length ca cb cc hd) (homeT (roadT m l s.at_ t.depot.toNat) hd t s)⟩]) ∧ SH _ [g45] w L' := by
  by_cases h : homeE (roadT m l s.at_ t.depot.toNat) hd t s = 0
  ·exact ⟨_, fun _ => rfl, hg h⟩
  ·exact ⟨Lx, fun h2 => absurd h2 h, Hx⟩
 replace H := SH.call (L1 := [_, _] ++ Lo) (Lv := [_]) H HL
 clear hg Hx HL
 refine Y.b rfl <| Y.z <| Y.qr <| Y.a rfl <| Y.v (Ev.neq rfl rfl) <| Y.z ?_
 refine WP.cond rfl (fun hc20 => ?_) (fun hc20 => ?_)
 ·refine Y.qr <| Y.a rfl <| Y.v (Ev.asP rfl) <| Y.v (Ev.asS rfl) <| Y.b rfl <| Y.z ?_
  refine WP.ret ⟨_, rfl, ?_⟩
  have hv : homeE (roadT m l s.at_ t.depot.toNat) hd t s ≠ 0 := by simpa using hc20
  exact ⟨fun _ => ⟨rfl, H.reidx [] (by decide) rfl⟩, fun h2 => absurd h2 hv⟩
 refine Y.k <| Y.qr <| Y.v (Ev.mvP rfl) <| Y.v (Ev.mvS rfl) <| Y.v (Ev.asP rfl) <| Y.v (Ev.asS rfl) <| Y.b rfl <| Y.z ?_
 refine WP.ret ⟨_, rfl, ?_⟩
 have hv : homeE (roadT m l s.at_ t.depot.toNat) hd t s = 0 := by simpa using hc20
 rw [hL' hv] at H
 have H2 := (H.perm rot3.symm)
 exact ⟨fun h2 => absurd hv h2, fun _ => ⟨g45, m, V, cv, Lo, rfl, rfl, hO, H2.drop (List.Sublist.cons_cons _ (((List.Sublist.refl _).cons _).cons _))⟩⟩
end Go.Proofs.YthobaaefdehoiaaGreat

/-
 Walks: Walk, Driving.
-/
set_option linter.all false
namespace Go.Proofs.YthobaaefdehoiaaGreat
open Go Go.W Go.RowKit
noncomputable def outV (n : Int) (l : List Edg) (ts : List Truck) (ns : List Need) (hd rt : Int) (rn : List Int) : List Vis := if walkE n l ts ns hd rt rn = 0 then walkV n l ts ns hd rt rn else []
noncomputable def outB' (n : Int) (l : List Edg) (ts : List Truck) (ns : List Need) (hd rt : Int) (rn : List Int) : Int := if walkE n l ts ns hd rt rn = 0 then (walkT n l ts ns hd rt rn).now else 0
noncomputable def outD (n : Int) (l : List Edg) (ts : List Truck) (ns : List Need) (hd rt : Int) (rn : List Int) : Int := if walkE n l ts ns hd rt rn = 0 then (walkT n l ts ns hd rt rn).driven else 0
theorem walkV_len (n : Int) (l : List Edg) (ts : List Truck) (ns : List Need) (hd rt : Int) (rn : List Int) : (walkV n l ts ns hd rt rn).length = rn.length := by unfold walkV; rw [goV_len]
theorem truckWalk1 (n hd rt : Int) (A B C R : Option Addr) (l : List Edg) (ts : List Truck) (ns : List Need) (rn : List Int) (ca cb cc cr : Nat) (w0 : World) (hz : EdgsAt w0 A l) (ht : RowsAt 4 truckCells w0 B ts) (hn : RowsAt 2 needCells w0 C ns) (hcc : ns.length ≤ cc) (hr : IntsAt w0 R rn) (hrl : rn.length ≤ maxLen) (hrc : rn.length ≤ cr) (hE : walkE n l ts ns hd rt rn = 0) :
  Calls Tryz.prog 26 #[.agg #[I n, .slice A l.length ca, .slice B ts.length cb, .slice C ns.length cc, I hd], .agg #[I rt, .slice R rn.length cr]] w0 fun e w' => ∃ (g m : Nat) (V : Option Addr) (cv : Nat) (Lv : List Blk), n = m ∧ e = .returned (.tuple #[.pointer (some ⟨g, 0, none⟩), .slice V rn.length cv, I 0]) ∧ OwnS V cv rn.length ((walkV n l ts ns hd rt rn).flatMap visCells) 111 4 Lv ∧
    SH w0 [] w' ([⟨g, 109, tourCells (ts.getD rt.toNat default) (nightL m A B C l.length ts.length ns.length ca cb cc hd) (walkT n l ts ns hd rt rn)⟩] ++ Lv) :=
 Calls.mono (truckWalk n hd rt A B C R l ts ns rn ca cb cc cr w0 hz ht hn hcc hr hrl hrc) fun _ _ h => h.2 hE
theorem truckWalk0 (n hd rt : Int) (A B C R : Option Addr) (l : List Edg) (ts : List Truck) (ns : List Need) (rn : List Int) (ca cb cc cr : Nat) (w0 : World) (hz : EdgsAt w0 A l) (ht : RowsAt 4 truckCells w0 B ts) (hn : RowsAt 2 needCells w0 C ns) (hcc : ns.length ≤ cc) (hr : IntsAt w0 R rn) (hrl : rn.length ≤ maxLen) (hrc : rn.length ≤ cr) (hE : walkE n l ts ns hd rt rn ≠ 0) :
  Calls Tryz.prog 26 #[.agg #[I n, .slice A l.length ca, .slice B ts.length cb, .slice C ns.length cc, I hd], .agg #[I rt, .slice R rn.length cr]] w0 fun e w' => e = .returned (.tuple #[.pointer none, .slice none 0 0, I (walkE n l ts ns hd rt rn)]) ∧ SH w0 [] w' [] :=
 Calls.mono (truckWalk n hd rt A B C R l ts ns rn ca cb cc cr w0 hz ht hn hcc hr hrl hrc) fun _ _ h => h.1 hE
theorem truckWalkP (n hd rt : Int) (A B C R : Option Addr) (l : List Edg) (ts : List Truck) (ns : List Need) (rn : List Int) (ca cb cc cr : Nat) (w0 : World) (hz : EdgsAt w0 A l) (ht : RowsAt 4 truckCells w0 B ts) (hn : RowsAt 2 needCells w0 C ns) (hcc : ns.length ≤ cc) (hr : IntsAt w0 R rn) (hrl : rn.length ≤ maxLen) (hrc : rn.length ≤ cr) :
  Calls Tryz.prog 35 #[.agg #[I n, .slice A l.length ca, .slice B ts.length cb, .slice C ns.length cc, I hd], .agg #[I rt, .slice R rn.length cr]] w0 fun e w' =>
   ∃ (V : Option Addr) (cv : Nat) (Lv : List Blk), e = .returned (.tuple #[.slice V (outV n l ts ns hd rt rn).length cv, I (outB' n l ts ns hd rt rn), I (walkE n l ts ns hd rt rn)]) ∧ OwnS V cv (outV n l ts ns hd rt rn).length ((outV n l ts ns hd rt rn).flatMap visCells) 111 4 Lv ∧ SH w0 [] w' Lv := by
 have H := SH.refl w0
 by_cases hE : walkE n l ts ns hd rt rn = 0
 ·have e1 : outV n l ts ns hd rt rn = walkV n l ts ns hd rt rn := if_pos hE
  have e2 : outB' n l ts ns hd rt rn = (walkT n l ts ns hd rt rn).now := if_pos hE
  rw [e1, e2, walkV_len]
  refine Calls.ofWP Tryz.func35 rfl Tryz.results35 Tryz.ntmps35 rfl <| Y.qr <| Y.bx (cA rfl) H ?_
  clear H; intro g2 w H
  refine Y.bx (cA rfl) H ?_
  clear H; intro g3 w H
  refine Y.v (Ev.asS rfl) <| Y.b rfl <| Y.b rfl <| Y.z <| Y.qr <| Y.v (Y.o H 1 rfl rfl) <| Y.v (Y.o H 0 rfl rfl) <| OPS.call (d := some 13) rfl rfl rfl (EvC.func (fun_run rfl)) (truckWalk1 n hd rt A B C R l ts ns rn ca cb cc cr w (hz.sh H) (ht.sh H) (hn.sh H) hcc (hr.sh H) hrl hrc hE) ?_
  rintro _ w ⟨g, m, V, cv, Lv, rfl, rfl, hO, Hc⟩
  refine ⟨_, rfl, ?_⟩
  replace H := SH.call (L1 := [_, _]) (Lv := []) H Hc
  clear Hc
  rw [hE]
  unfold tourCells truckCells nightL at H
  simp only [List.cons_append, List.nil_append] at H
  refine Y.v (Ev.mvT rfl) <| Y.v (Ev.extract rfl rfl) <| Y.v (Ev.extract rfl rfl) <| Y.v (Ev.extract rfl rfl) <| Y.v (Ev.asP rfl) <| Y.v (Ev.asS rfl) <| Y.b rfl <| Y.z <| Y.q <| Y.qr <| Y.a rfl <| Y.v (Ev.neq rfl rfl) <| Y.z ?_
  refine WP.cond rfl (fun hc2 => ?_) (fun hc2 => ?_)
  ·refine Y.qr <| Y.a rfl <| Y.v (Ev.asS rfl) <| Y.b rfl <| Y.b rfl <| Y.z ?_
   refine WP.ret ⟨_, rfl, ?_⟩
   exact absurd hc2 (by decide)
  refine Y.k <| Y.q <| WP.rstill mixed (by kernel_rfl) H ?_
  clear H; intro w hbw4 H
  refine Y.v (Ev.mvS rfl) <| Y.v (Ev.mvP rfl) <| Y.v (Ev.nilCheckP rfl) <| Y.fa rfl rfl <| Y.j H 2 rfl rfl rfl <| Y.v (Ev.asS rfl) <| Y.b rfl <| Y.b rfl <| OPS.nil_s ?_
  refine WP.ret ⟨_, rfl, ?_⟩
  exact ⟨V, cv, Lv, rfl, hO, H.drop ((((List.Sublist.refl _).cons _).cons _).cons _)⟩
 ·have e1 : outV n l ts ns hd rt rn = [] := if_neg hE
  have e2 : outB' n l ts ns hd rt rn = 0 := if_neg hE
  rw [e1, e2]
  refine Calls.ofWP Tryz.func35 rfl Tryz.results35 Tryz.ntmps35 rfl <| Y.qr <| Y.bx (cA rfl) H ?_
  clear H; intro g2 w H
  refine Y.bx (cA rfl) H ?_
  clear H; intro g3 w H
  refine Y.v (Ev.asS rfl) <| Y.b rfl <| Y.b rfl <| Y.z <| Y.qr <| Y.v (Y.o H 1 rfl rfl) <| Y.v (Y.o H 0 rfl rfl) <| OPS.call (d := some 13) rfl rfl rfl (EvC.func (fun_run rfl)) (truckWalk0 n hd rt A B C R l ts ns rn ca cb cc cr w (hz.sh H) (ht.sh H) (hn.sh H) hcc (hr.sh H) hrl hrc hE) ?_
  rintro _ w ⟨rfl, Hc⟩
  refine ⟨_, rfl, ?_⟩
  replace H := SH.call (L1 := [_, _]) (Lv := []) H Hc
  clear Hc
  refine Y.v (Ev.mvT rfl) <| Y.v (Ev.extract rfl rfl) <| Y.v (Ev.extract rfl rfl) <| Y.v (Ev.extract rfl rfl) <| Y.v (Ev.asP rfl) <| Y.v (Ev.asS rfl) <| Y.b rfl <| Y.z <| Y.q <| Y.qr <| Y.a rfl <| Y.v (Ev.neq rfl rfl) <| Y.z ?_
  refine WP.cond rfl (fun hc2 => ?_) (fun hc2 => ?_)
  ·refine Y.qr <| Y.a rfl <| Y.v (Ev.asS rfl) <| Y.b rfl <| Y.b rfl <| Y.z ?_
   refine WP.ret ⟨_, rfl, ?_⟩
   exact ⟨none, 0, [], rfl, OwnS.nil, H.reidx [] (by decide) rfl⟩
  refine Y.k <| Y.q ?_
  exact absurd hc2 (by simp [hE])
theorem truckDriving (n hd rt : Int) (A B C R : Option Addr) (l : List Edg) (ts : List Truck) (ns : List Need) (rn : List Int) (ca cb cc cr : Nat) (w0 : World) (hz : EdgsAt w0 A l) (ht : RowsAt 4 truckCells w0 B ts) (hn : RowsAt 2 needCells w0 C ns) (hcc : ns.length ≤ cc) (hr : IntsAt w0 R rn) (hrl : rn.length ≤ maxLen) (hrc : rn.length ≤ cr) :
  Calls Tryz.prog 31 #[.agg #[I n, .slice A l.length ca, .slice B ts.length cb, .slice C ns.length cc, I hd], .agg #[I rt, .slice R rn.length cr]] w0 fun e w' =>
   e = .returned (.tuple #[I (outD n l ts ns hd rt rn), I (walkE n l ts ns hd rt rn)]) ∧ Below w0.heap.size w0 w' := by
 have H := SH.refl w0
 by_cases hE : walkE n l ts ns hd rt rn = 0
 ·have e1 : outD n l ts ns hd rt rn = (walkT n l ts ns hd rt rn).driven := if_pos hE
  rw [e1]
  refine Calls.ofWP Tryz.func31 rfl Tryz.results31 Tryz.ntmps31 rfl <| Y.qr <| Y.bx (cA rfl) H ?_
  clear H; intro g2 w H
  refine Y.bx (cA rfl) H ?_
  clear H; intro g3 w H
  refine Y.b rfl <| Y.b rfl <| Y.z <| Y.qr <| Y.v (Y.o H 1 rfl rfl) <| Y.v (Y.o H 0 rfl rfl) <| OPS.call (d := some 12) rfl rfl rfl (EvC.func (fun_run rfl)) (truckWalk1 n hd rt A B C R l ts ns rn ca cb cc cr w (hz.sh H) (ht.sh H) (hn.sh H) hcc (hr.sh H) hrl hrc hE) ?_
  rintro _ w ⟨g, m, V, cv, Lv, rfl, rfl, hO, Hc⟩
  refine ⟨_, rfl, ?_⟩
  replace H := SH.call (L1 := [_, _]) (Lv := []) H Hc
  clear Hc
  rw [hE]
  unfold tourCells truckCells nightL at H
  simp only [List.cons_append, List.nil_append] at H
  refine Y.v (Ev.mvT rfl) <| Y.v (Ev.extract rfl rfl) <| Y.v (Ev.extract rfl rfl) <| Y.v (Ev.extract rfl rfl) <| Y.v (Ev.asP rfl) <| Y.v (Ev.asS rfl) <| Y.b rfl <| Y.z <| Y.q <| Y.qr <| Y.a rfl <| Y.v (Ev.neq rfl rfl) <| Y.z ?_
  refine WP.cond rfl (fun hc2 => ?_) (fun hc2 => ?_)
  ·refine Y.qr <| Y.a rfl <| Y.b rfl <| Y.b rfl <| Y.z ?_
   refine WP.ret ⟨_, rfl, ?_⟩
   exact absurd hc2 (by decide)
  refine Y.k <| Y.qr <| Y.v (Ev.mvP rfl) <| Y.v (Ev.nilCheckP rfl) <| Y.fa rfl rfl <| Y.j H 2 rfl rfl rfl <| Y.b rfl <| Y.b rfl <| Y.z ?_
  refine WP.ret ⟨_, rfl, ?_⟩
  exact ⟨rfl, H.below⟩
 ·have e1 : outD n l ts ns hd rt rn = 0 := if_neg hE
  rw [e1]
  refine Calls.ofWP Tryz.func31 rfl Tryz.results31 Tryz.ntmps31 rfl <| Y.qr <| Y.bx (cA rfl) H ?_
  clear H; intro g2 w H
  refine Y.bx (cA rfl) H ?_
  clear H; intro g3 w H
  refine Y.b rfl <| Y.b rfl <| Y.z <| Y.qr <| Y.v (Y.o H 1 rfl rfl) <| Y.v (Y.o H 0 rfl rfl) <| OPS.call (d := some 12) rfl rfl rfl (EvC.func (fun_run rfl)) (truckWalk0 n hd rt A B C R l ts ns rn ca cb cc cr w (hz.sh H) (ht.sh H) (hn.sh H) hcc (hr.sh H) hrl hrc hE) ?_
  rintro _ w ⟨rfl, Hc⟩
  refine ⟨_, rfl, ?_⟩
  replace H := SH.call (L1 := [_, _]) (Lv := []) H Hc
  clear Hc
  refine Y.v (Ev.mvT rfl) <| Y.v (Ev.extract rfl rfl) <| Y.v (Ev.extract rfl rfl) <| Y.v (Ev.extract rfl rfl) <| Y.v (Ev.asP rfl) <| Y.v (Ev.asS rfl) <| Y.b rfl <| Y.z <| Y.q <| Y.qr <| Y.a rfl <| Y.v (Ev.neq rfl rfl) <| Y.z ?_
  refine WP.cond rfl (fun hc2 => ?_) (fun hc2 => ?_)
  ·refine Y.qr <| Y.a rfl <| Y.b rfl <| Y.b rfl <| Y.z ?_
   refine WP.ret ⟨_, rfl, ?_⟩
   exact ⟨rfl, H.below⟩
  refine Y.k <| Y.q ?_
  exact absurd hc2 (by simp [hE])
end Go.Proofs.YthobaaefdehoiaaGreat

/-
 Plain: plans, and what is wrong with them.
-/
set_option linter.all false
namespace Go.Proofs.YthobaaefdehoiaaGreat
open Go Go.W Go.RowKit
open Classical in
theorem sum_count {α : Type} (x : α) (l : List α) : (l.map fun y => if y = x then 1 else 0).sum = List.count x l := by
 induction l with
 | nil => rfl
 | cons a l ih =>
  rw [List.map_cons, List.sum_cons, ih, List.count_cons]
  by_cases h : a = x <;> simp [h] <;> omega
open Classical in
theorem perm_by {α : Type} {l l' : List α} (h : ∀ f : α → Nat, (l.map f).sum = (l'.map f).sum) : l.Perm l' :=
 List.perm_iff_count.2 fun x => by rw [← sum_count, ← sum_count]; exact h _
structure Rt where
 trk : Int
 nd : SlA Int
def rtCells (r : Rt) : List Value := [I r.trk, .slice r.nd.A r.nd.l.length r.nd.cap]
theorem rtCells_len (r : Rt) : (rtCells r).length = 2 := rfl
structure RtsAt (w : World) (A : Option Addr) (rs : List Rt) : Prop where
 rows : RowsAt 2 rtCells w A rs
 ints : ∀ r ∈ rs, IntsAt w r.nd.A r.nd.l
 cap : ∀ r ∈ rs, r.nd.l.length ≤ r.nd.cap
 len : ∀ r ∈ rs, r.nd.l.length ≤ 1000
 few : rs.length ≤ 1000
theorem RtsAt.below {w w' : World} {A : Option Addr} {rs : List Rt} (h : RtsAt w A rs) (hb : Below w.heap.size w w') : RtsAt w' A rs :=
 ⟨h.rows.below hb, fun r hr => (h.ints r hr).below hb, h.cap, h.len, h.few⟩
theorem RtsAt.sh {w w' : World} {A : Option Addr} {rs : List Rt} {L : List Blk} (h : RtsAt w A rs) (H : SH w [] w' L) : RtsAt w' A rs := h.below H.below
def allN (rs : List Rt) : List Int := rs.flatMap (·.nd.l)
theorem allN_len : ∀ (rs : List Rt), (∀ r ∈ rs, r.nd.l.length ≤ 1000) → (allN rs).length ≤ 1000 * rs.length
 | [], _ => Nat.le_refl _
 | r :: rs, h => by
  have h1 := h r (by simp)
  have h2 := allN_len rs fun x hx => h x (List.mem_cons_of_mem _ hx)
  simp only [allN, List.flatMap_cons, List.length_append, List.length_cons] at h2 ⊢
  omega
noncomputable def routesE (n : Int) (l : List Edg) (ts : List Truck) (ns : List Need) (hd : Int) : List Rt → Int
 | [] => 0
 | r :: rs => if walkE n l ts ns hd r.trk r.nd.l ≠ 0 then walkE n l ts ns hd r.trk r.nd.l else routesE n l ts ns hd rs
def goodAll (k : Nat) (a : List Int) : Bool := decide (∀ i ∈ a, 0 ≤ i ∧ i < (k : Int)) && decide (a.length = k)
noncomputable def planErr (n : Int) (l : List Edg) (ts : List Truck) (ns : List Need) (hd : Int) (rs : List Rt) (left : List Int) : Int :=
 if nightErr n l ts ns hd ≠ 0 then nightErr n l ts ns hd else if routesE n l ts ns hd rs ≠ 0 then routesE n l ts ns hd rs
 else if (twiceB (rs.map (·.trk)) || twiceB (allN rs ++ left)) = true then 6 else if goodAll ns.length (allN rs ++ left) = true then (if sortedB left = true then 0 else 9) else 7
section
variable {n : Int} {l : List Edg} {ts : List Truck} {ns : List Need} {hd : Int}
theorem routesE_drop {rs : List Rt} : ∀ {j : Nat}, j ≤ rs.length → (∀ i (hi : i < rs.length), i < j → walkE n l ts ns hd rs[i].trk rs[i].nd.l = 0) → routesE n l ts ns hd rs = routesE n l ts ns hd (rs.drop j)
 | 0, _, _ => rfl
 | j + 1, hj, h => by
  rw [routesE_drop (j := j) (by omega) (fun i hi hij => h i hi (by omega)), List.drop_eq_getElem_cons (show j < rs.length by omega), routesE]
  have := h j (by omega) (by omega)
  simp [this]
theorem routesE_all {rs : List Rt} (h : ∀ i (hi : i < rs.length), walkE n l ts ns hd rs[i].trk rs[i].nd.l = 0) : routesE n l ts ns hd rs = 0 := by
 rw [routesE_drop (Nat.le_refl _) (fun i hi _ => h i hi)]; simp [routesE]
theorem routesE_at {rs : List Rt} {j : Nat} (hj : j < rs.length) (h : ∀ i (hi : i < rs.length), i < j → walkE n l ts ns hd rs[i].trk rs[i].nd.l = 0) (he : walkE n l ts ns hd rs[j].trk rs[j].nd.l ≠ 0) : routesE n l ts ns hd rs = walkE n l ts ns hd rs[j].trk rs[j].nd.l := by
 rw [routesE_drop (by omega) h, List.drop_eq_getElem_cons hj, routesE, if_pos he]
theorem walkE_route {rt : Int} {rn : List Int} (h : walkE n l ts ns hd rt rn = 0) : nightErr n l ts ns hd = 0 ∧ routeErr ts ns rt rn = 0 := by
 unfold walkE at h
 split at h
 ·rename_i h1; exact absurd h h1
 ·rename_i h1
  split at h
  ·rename_i h2; exact absurd h h2
  ·rename_i h2; exact ⟨by simpa using h1, by simpa using h2⟩
end
theorem nodup_sub {a b : List Int} (h : a.Nodup) (hs : ∀ x ∈ a, x ∈ b) : a.length ≤ b.length := List.Nodup.length_le_of_subset h hs
def upto (k : Nat) : List Int := (List.range k).map fun i : Nat => (i : Int)
theorem upto_len (k : Nat) : (upto k).length = k := by simp [upto]
theorem upto_mem {k : Nat} {x : Int} : x ∈ upto k ↔ 0 ≤ x ∧ x < (k : Int) := by
 unfold upto
 rw [List.mem_map]
 constructor
 ·rintro ⟨i, hi, rfl⟩; have := List.mem_range.1 hi; omega
 ·intro h; exact ⟨x.toNat, List.mem_range.2 (by omega), by omega⟩
theorem upto_nodup (k : Nat) : (upto k).Nodup := by
 unfold upto
 rw [List.nodup_iff_pairwise_ne, List.pairwise_map]
 exact List.Pairwise.imp (fun h he => h (by omega)) (List.nodup_iff_pairwise_ne.1 (List.nodup_range (n := k)))
theorem good_prog {k : Nat} {a : List Int} (hn : a.Nodup) : goodAll k a = true ↔ (∀ i : Nat, i < k → (i : Int) ∈ a) ∧ a.length ≤ k := by
 simp only [goodAll, Bool.and_eq_true, decide_eq_true_eq]
 constructor
 ·rintro ⟨h1, h2⟩
  refine ⟨fun i hi => Classical.byContradiction fun hc => ?_, by omega⟩
  have h3 := nodup_sub (a := (i : Int) :: a) (b := upto k) (List.nodup_cons.2 ⟨hc, hn⟩) (fun x hx => by
   rcases List.mem_cons.1 hx with rfl | hx
   ·exact upto_mem.2 (by omega)
   ·exact upto_mem.2 (h1 x hx))
  rw [upto_len, List.length_cons] at h3; omega
 ·rintro ⟨h1, h2⟩
  have hsub : ∀ x ∈ upto k, x ∈ a := fun x hx => by
   have h3 := upto_mem.1 hx
   obtain ⟨i, rfl⟩ := Int.eq_ofNat_of_zero_le h3.1
   exact h1 i (by omega)
  have h4 := nodup_sub (upto_nodup k) hsub
  rw [upto_len] at h4
  refine ⟨fun i hi => Classical.byContradiction fun hc => ?_, by omega⟩
  have h3 := nodup_sub (a := i :: upto k) (b := a) (List.nodup_cons.2 ⟨fun h => hc (upto_mem.1 h), upto_nodup k⟩) (fun x hx => by
   rcases List.mem_cons.1 hx with rfl | hx
   ·exact hi
   ·exact hsub x hx)
  rw [List.length_cons, upto_len] at h3; omega
end Go.Proofs.YthobaaefdehoiaaGreat

/-
 Walk: Feasible.
-/
set_option linter.all false
namespace Go.Proofs.YthobaaefdehoiaaGreat
open Go Go.W Go.RowKit
theorem truckWalkE (n hd rt : Int) (A B C R : Option Addr) (l : List Edg) (ts : List Truck) (ns : List Need) (rn : List Int) (ca cb cc cr : Nat) (w0 : World) (hz : EdgsAt w0 A l) (ht : RowsAt 4 truckCells w0 B ts) (hn : RowsAt 2 needCells w0 C ns) (hcc : ns.length ≤ cc) (hr : IntsAt w0 R rn) (hrl : rn.length ≤ maxLen) (hrc : rn.length ≤ cr) :
  Calls Tryz.prog 26 #[.agg #[I n, .slice A l.length ca, .slice B ts.length cb, .slice C ns.length cc, I hd], .agg #[I rt, .slice R rn.length cr]] w0 fun e w' =>
   ∃ (P V : Option Addr) (nv cv : Nat) (L : List Blk), e = .returned (.tuple #[.pointer P, .slice V nv cv, I (walkE n l ts ns hd rt rn)]) ∧ SH w0 [] w' L :=
 Calls.mono (truckWalk n hd rt A B C R l ts ns rn ca cb cc cr w0 hz ht hn hcc hr hrl hrc) fun _ _ h => by
  by_cases hE : walkE n l ts ns hd rt rn = 0
  ·obtain ⟨g, m, V, cv, Lv, _, h1, _, h2⟩ := h.2 hE
   exact ⟨_, V, _, cv, _, by rw [hE]; exact h1, h2⟩
  ·obtain ⟨h1, h2⟩ := h.1 hE
   exact ⟨none, none, 0, 0, _, h1, h2⟩
theorem onesSrc {α : Type} {enc : α → Value} {w : World} {A : Option Addr} {l : List α} (h : OnesAt enc w A l) : l.length = 0 ∨ ∃ b o, A = some ⟨b, o, none⟩ ∧ cellsAt w b o (l.map enc) := by
 rcases Nat.eq_zero_or_pos l.length with h0 | h0
 ·exact .inl h0
 ·obtain ⟨b, o, rfl, _⟩ := h 0 h0
  exact .inr ⟨b, o, rfl, h.cells⟩
theorem _root_.Go.W.OwnS.le {A : Option Addr} {cap n el sz : Nat} {xs : List Value} {Lo : List Blk} (h : OwnS A cap n xs el sz Lo) : n ≤ cap := by
 rcases h.form with ⟨_, q, _, _⟩ | ⟨_, _, _, _, q, _, _⟩ <;> omega
theorem ints_one (l : List Int) : ((l.map I).all (·.oneCell')) = true := by
 rw [List.all_eq_true]
 intro v hv
 obtain ⟨x, _, rfl⟩ := List.mem_map.1 hv
 rfl
theorem fz1 {a b c d : Blk} {Lt Lq : List Blk} : (a :: b :: ([c, d] ++ (Lt ++ Lq))).Perm (([a, b, c, d] ++ Lq) ++ Lt) := perm_by fun f => by simp <;> omega
theorem fz2 {a b c d : Blk} {Lt Lq : List Blk} : (([a, b, c, d] ++ Lq) ++ Lt).Perm (([a, b, c, d] ++ Lt) ++ Lq) := perm_by fun f => by simp <;> omega
theorem fz3 {c d : Blk} {Lt Lq : List Blk} : ([c, d] ++ (Lt ++ Lq)).Perm (([c, d] ++ Lt) ++ Lq) := perm_by fun f => by simp <;> omega
theorem fz4 {a b c d : Blk} {Lt Lq : List Blk} : ([c, d] ++ (Lt ++ Lq)).Sublist (([a, b, c, d] ++ Lt) ++ Lq) := by
 rw [← List.append_assoc]
 exact List.Sublist.append (List.Sublist.append (((List.Sublist.refl [c, d]).cons b).cons a) (List.Sublist.refl Lt)) (List.Sublist.refl Lq)
set_option maxHeartbeats 1000000 in
theorem truckFeasible (n hd : Int) (A B C P F : Option Addr) (l : List Edg) (ts : List Truck) (ns : List Need) (rs : List Rt) (left : List Int) (ca cb cc cp cf : Nat) (w0 : World) (hz : EdgsAt w0 A l) (ht : RowsAt 4 truckCells w0 B ts) (hn : RowsAt 2 needCells w0 C ns) (hcc : ns.length ≤ cc)
  (hP : RtsAt w0 P rs) (hF : IntsAt w0 F left) (hfl : left.length ≤ 1000) (hnl : ns.length ≤ 1000) :
  Calls Tryz.prog 9 #[.agg #[I n, .slice A l.length ca, .slice B ts.length cb, .slice C ns.length cc, I hd], .agg #[.slice P rs.length cp, .slice F left.length cf]] w0 fun e w' =>
   e = .returned (I (planErr n l ts ns hd rs left)) ∧ Below w0.heap.size w0 w' := by
 have H := SH.refl w0
 have hfew := hP.few
 refine Calls.ofWP Tryz.func9 rfl Tryz.results9 Tryz.ntmps9 rfl <| Y.qr <| Y.bx (cA rfl) H ?_
 clear H; intro g2 w H
 refine Y.bx (cA rfl) H ?_
 clear H; intro g3 w H
 refine Y.b rfl <| Y.z <| Y.q <| Y.qr <| Y.v (Y.o H 1 rfl rfl) <| OPS.call (d := some 15) rfl rfl rfl (EvC.func (fun_run rfl)) (truckCheck n hd A B C l ts ns ca cb cc w (hz.sh H) (ht.sh H) (hn.sh H) hcc) ?_
 rintro _ w ⟨rfl, hb⟩
 refine ⟨_, rfl, ?_⟩
 replace H := H.toBelow hb; clear hb
 refine Y.b rfl <| Y.z <| Y.qr <| Y.a rfl <| Y.v (Ev.neq rfl rfl) <| Y.z ?_
 refine WP.cond rfl (fun hc2 => ?_) (fun hc2 => ?_)
 ·refine Y.qr <| Y.a rfl <| Y.b rfl <| Y.z ?_
  refine WP.ret ⟨_, rfl, ?_⟩
  have h : nightErr n l ts ns hd ≠ 0 := by simpa using hc2
  exact ⟨by rw [planErr, if_pos h]; rfl, H.below⟩
 have h0 : nightErr n l ts ns hd = 0 := by simpa using hc2
 refine Y.k <| Y.qr <| Y.v (Ev.asS rfl) <| Y.v (Ev.asS rfl) <| Y.z <| Y.q <| Y.qr <| Y.fa rfl rfl <| Y.j H 0 rfl rfl rfl <| Y.v (Y.n rfl) <| Y.a rfl <| Y.z <| WP.block <| WP.loop [4, 6, 7, 9, 10, 11, 12, 22, 23, 24, 25, 26, 27, 28, 29, 30, 31, 32, 33, 34, 35, 36, 37, 38, 39, 40, 41, 42, 43, 44, 45] (fun k e w' => ∃ (j : Nat) (T Q : Option Addr) (ct cq : Nat) (Lt Lq : List Blk), j + k = rs.length ∧ e 22 = I j ∧ e 6 = .slice T j ct ∧ e 7 = .slice Q (allN (rs.take j)).length cq ∧ OwnS T ct j (((rs.take j).map (·.trk)).map I) 3 1 Lt ∧ OwnS Q cq (allN (rs.take j)).length ((allN (rs.take j)).map I) 3 1 Lq ∧ (∀ i (hi : i < rs.length), i < j → walkE n l ts ns hd rs[i].trk rs[i].nd.l = 0) ∧ SH w0 [] w' ([⟨g3, 32, [.slice P rs.length cp, .slice F left.length cf]⟩, ⟨g2, 28, [I n, .slice A l.length ca, .slice B ts.length cb, .slice C ns.length cc, I hd]⟩] ++ (Lt ++ Lq))) (rs.length) (⟨0, none, none, 0, 0, [], [], by omega, rfl, rfl, rfl, OwnS.nil, OwnS.nil, fun i _ h => absurd h (by omega), by rw [List.append_nil, List.append_nil]; exact H⟩) ?_
 clear H
 rintro k u w ⟨j, T, Q, ct, cq, Lt, Lq, hk, h22, h6, h7, hOT, hOQ, hall, H⟩
 refine WP.know (t := 22) h22 (WP.know (t := 6) h6 (WP.know (t := 7) h7 ?_))
 have hlenA : (allN (rs.take j)).length ≤ 1000000 := by
  have h1 := allN_len (rs.take j) (fun r hr => hP.len r (List.mem_of_mem_take hr))
  have h2 : (rs.take j).length ≤ j := List.length_take_le _ _
  omega
 refine Y.qr <| Y.v (Ev.lss rfl rfl) <| Y.z <| Y.q ?_
 refine WP.cond rfl (fun hc6 => ?_) (fun hc6 => ?_)
 ·have hlt : j < rs.length := by simpa using hc6
  obtain ⟨b, o, rfl, hc⟩ := hP.rows j hlt
  have hr := hP.ints rs[j] (List.getElem_mem hlt)
  have hrl := hP.len rs[j] (List.getElem_mem hlt)
  have hrc := hP.cap rs[j] (List.getElem_mem hlt)
  have hc' := cellsAt_sh H hc
  have htk : rs.take (j + 1) = rs.take j ++ [rs[j]] := List.take_succ_eq_append_getElem hlt
  refine Y.k <| Y.q <| WP.block <| Y.qr <| Y.v (Y.X rfl rfl rfl rfl rfl) <| Y.v (Ev.loadN (rtCells rs[j]) (agg_run rfl) (size_run rfl) rfl hc') <| Y.al H rfl rfl ?_
  clear H; intro g9 w H
  refine Y.ss 0 H rfl (cA rfl) rfl ?_
  clear H; intro w H
  refine Y.z <| Y.q <| Y.qr <| Y.v (Y.o H 2 rfl rfl) <| Y.v (Y.o H 0 rfl rfl) <| OPS.call (d := some 29) rfl rfl rfl (EvC.func (fun_run rfl)) (truckWalkE n hd rs[j].trk A B C rs[j].nd.A l ts ns rs[j].nd.l ca cb cc rs[j].nd.cap w (hz.sh H) (ht.sh H) (hn.sh H) hcc (hr.sh H) (by unfold maxLen; omega) hrc) ?_
  rintro _ w ⟨PP, V, nv, cv, L', rfl, Hc⟩
  refine ⟨_, rfl, ?_⟩
  replace H := SH.call (Lv := []) (by rw [List.append_nil]; exact H) Hc
  replace H := H.drop (List.sublist_append_left _ _)
  clear Hc
  refine Y.v (Ev.mvT rfl) <| Y.v (Ev.extract rfl rfl) <| Y.v (Ev.extract rfl rfl) <| Y.v (Ev.extract rfl rfl) <| Y.v (Ev.asP rfl) <| Y.v (Ev.asS rfl) <| Y.b rfl <| Y.z <| Y.qr <| Y.a rfl <| Y.v (Ev.neq rfl rfl) <| Y.z ?_
  refine WP.cond rfl (fun hc9 => ?_) (fun hc9 => ?_)
  ·refine Y.qr <| Y.a rfl <| Y.b rfl <| Y.z ?_
   refine WP.ret ⟨_, rfl, ?_⟩
   have h : walkE n l ts ns hd rs[j].trk rs[j].nd.l ≠ 0 := by simpa using hc9
   have hE := routesE_at hlt hall h
   exact ⟨by rw [planErr, if_neg (by simp [h0]), hE, if_pos h]; rfl, H.below⟩
  have h9 : walkE n l ts ns hd rs[j].trk rs[j].nd.l = 0 := by simpa using hc9
  refine Y.k <| Y.qr <| Y.v (Ev.mvS rfl) <| Y.fa rfl rfl <| Y.j H 0 rfl rfl rfl <| OPS.buildSlice rfl rfl rfl rfl (bsl_30_1_0 rfl) H ?_
  clear H; intro g39 w H
  refine OPS.append (m := 1) (news := [I rs[j].trk]) (R := [⟨g39, 3, [I rs[j].trk]⟩, ⟨g9, 50, rtCells rs[j]⟩, ⟨g3, 32, [.slice (some ⟨b, o, none⟩) rs.length cp, .slice F left.length cf]⟩, ⟨g2, 28, [I n, .slice A l.length ca, .slice B ts.length cb, .slice C ns.length cc, I hd]⟩] ++ Lq) rfl rfl rfl rfl rfl (sl_run rfl) rfl rfl hOT rfl (src_own H 0 rfl) rfl (by omega) (by unfold maxLen; omega) H fz1 ?_
  clear H hOT; intro T ct Lt w hOT H
  refine Y.v (Ev.asS rfl) <| Y.z <| Y.r <| Y.v (Ev.mvS rfl) <| Y.fa rfl rfl <| Y.j H 1 rfl rfl rfl <| OPS.appendE (m := rs[j].nd.l.length) (news := rs[j].nd.l.map I) (R := [⟨g39, 3, [I rs[j].trk]⟩, ⟨g9, 50, rtCells rs[j]⟩, ⟨g3, 32, [.slice (some ⟨b, o, none⟩) rs.length cp, .slice F left.length cf]⟩, ⟨g2, 28, [I n, .slice A l.length ca, .slice B ts.length cb, .slice C ns.length cc, I hd]⟩] ++ Lt) rfl rfl rfl rfl rfl (sl_run rfl) rfl rfl hOQ (by simp) (onesSrc (hr.sh H)) (ints_one _) (by omega) (by unfold maxLen; omega) H fz2 ?_
  clear H hOQ; intro Q cq Lq w hOQ H
  refine Y.v (Ev.asS rfl) <| Y.z <| Y.r <| Y.v (Y.p rfl rfl) <| Y.a rfl <| Y.z ?_
  have eA : allN (rs.take (j + 1)) = allN (rs.take j) ++ rs[j].nd.l := by rw [htk]; unfold allN; rw [List.flatMap_append, List.flatMap_cons, List.flatMap_nil, List.append_nil]
  have eL : (allN (rs.take (j + 1))).length = (allN (rs.take j)).length + rs[j].nd.l.length := by rw [eA, List.length_append]
  refine ⟨Y.ag, k - 1, by omega, j + 1, T, Q, ct, cq, Lt, Lq, by omega, rfl, rfl, (by rw [eL]; rfl), (by rw [htk, List.map_append, List.map_append]; exact hOT), (by rw [eL, eA, List.map_append]; exact hOQ), fun i hi hij => ?_, H.drop fz4⟩
  rcases Nat.lt_succ_iff_lt_or_eq.1 hij with h | rfl
  ·exact hall i hi h
  ·exact h9
 have hj : j = rs.length := by simp at hc6; omega
 subst hj
 rw [List.take_length] at hOT hOQ hlenA
 have hE := routesE_all (n := n) (l := l) (ts := ts) (ns := ns) (hd := hd) (fun i hi => hall i hi hi)
 have e0 : planErr n l ts ns hd rs left = if (twiceB (rs.map (·.trk)) || twiceB (allN rs ++ left)) = true then 6 else if goodAll ns.length (allN rs ++ left) = true then (if sortedB left = true then 0 else 9) else 7 := by rw [planErr, if_neg (by simp [h0]), if_neg (by simp [hE])]
 have hTl : (rs.map (·.trk)).length = rs.length := by simp
 rw [show (List.take rs.length rs) = rs from List.take_length]
 refine WP.exit <| XB.hit <| Y.qr <| Y.v (Ev.mvS rfl) <| Y.fa rfl rfl <| Y.j H 0 rfl rfl rfl <| OPS.appendE (m := left.length) (news := left.map I) (R := [⟨g3, 32, [.slice P rs.length cp, .slice F left.length cf]⟩, ⟨g2, 28, [I n, .slice A l.length ca, .slice B ts.length cb, .slice C ns.length cc, I hd]⟩] ++ Lt) rfl rfl rfl rfl rfl (sl_run rfl) rfl rfl hOQ (by simp) (onesSrc (hF.sh H)) (ints_one _) (by omega) (by unfold maxLen; omega) H fz3 ?_
 clear H hOQ; intro Q cq Lq w hOQ H
 rw [← List.map_append, ← List.length_append] at hOQ
 have hLA : (allN rs ++ left).length ≤ 1001000 := by rw [List.length_append]; omega
 have hcq := hOQ.le
 have hct := hOT.le
 rw [← List.length_append]
 refine Y.v (Ev.asS rfl) <| Y.z <| Y.q <| Y.qr <| Y.v (Ev.mvS rfl) ?_
 have hxT := (hOT.ones (R := [⟨g3, 32, [.slice P rs.length cp, .slice F left.length cf]⟩, ⟨g2, 28, [I n, .slice A l.length ca, .slice B ts.length cb, .slice C ns.length cc, I hd]⟩] ++ Lq) (H.perm (by exact perm_by fun f => by simp <;> omega))).1
 have hxQ := (hOQ.ones H).1
 have hTw := truckTwice T (rs.map (·.trk)) ct w hxT (by rw [hTl]; unfold maxLen; omega) (by omega)
 rw [hTl] at hTw
 refine OPS.call (d := some 51) rfl rfl rfl (EvC.func (fun_run rfl)) (hTw) ?_
 rintro _ w ⟨rfl, hb⟩
 refine ⟨_, rfl, ?_⟩
 replace H := H.toBelow hb; clear hb
 refine Y.v (Ev.mvB rfl) <| Y.g rfl rfl (fun hg => Ev.mvS rfl) <| OPS.gcall0 (f := 27) (truckTwice Q (allN rs ++ left) cq w ((hOQ.ones H).1) (by unfold maxLen; omega) (by omega)) (fun _ _ h => h) rfl rfl rfl rfl rfl (fun hg => EvC.conv (EvC.func (fun_run rfl)) (l1 (gvE hg rfl))) ?_
 intro w hbc; replace H := H.toBelow hbc
 refine Y.v (Ev.pickOr rfl rfl rfl) <| Y.z ?_
 refine WP.cond rfl (fun hc15 => ?_) (fun hc15 => ?_)
 ·refine Y.qr <| Y.b rfl <| Y.z ?_
  refine WP.ret ⟨_, rfl, ?_⟩
  exact ⟨by rw [e0, if_pos hc15]; rfl, H.below⟩
 have h15 : twiceB (rs.map (·.trk)) = false ∧ twiceB (allN rs ++ left) = false := by simpa using hc15
 have hnd : (allN rs ++ left).Nodup := by simpa [twiceB] using h15.2
 have e1 : planErr n l ts ns hd rs left = if goodAll ns.length (allN rs ++ left) = true then (if sortedB left = true then 0 else 9) else 7 := by rw [e0, if_neg (by rw [h15.1, h15.2]; decide)]
 refine Y.k <| Y.q <| Y.qr <| Y.fa rfl rfl <| Y.j H 1 rfl rfl rfl <| Y.v (Y.n rfl) <| Y.a rfl <| Y.z <| WP.block <| WP.loop [4, 13, 59, 60, 61, 62, 63, 64, 65, 66] (fun k e w' => ∃ j : Nat, j + k = ns.length ∧ e 59 = I j ∧ (∀ i : Nat, i < j → (i : Int) ∈ allN rs ++ left) ∧ SH w0 [] w' ([⟨g3, 32, [.slice P rs.length cp, .slice F left.length cf]⟩, ⟨g2, 28, [I n, .slice A l.length ca, .slice B ts.length cb, .slice C ns.length cc, I hd]⟩] ++ Lt ++ Lq)) (ns.length) (⟨0, by omega, rfl, (fun i h => absurd h (by omega)), H⟩) ?_
 clear H
 rintro k u w ⟨j, hk, h59, hin, H⟩
 refine WP.know (t := 59) h59 ?_
 have hxQ := (hOQ.ones H).1
 refine Y.qr <| Y.v (Ev.lss rfl rfl) <| Y.z <| Y.q ?_
 refine WP.cond rfl (fun hc18 => ?_) (fun hc18 => ?_)
 ·refine Y.k <| Y.q <| WP.block <| Y.qr <| Y.a rfl <| Y.b rfl <| Y.z <| Y.qr <| Y.v (Ev.mvS rfl) <| Y.a rfl <| OPS.call (d := some 64) rfl rfl rfl (EvC.func (fun_run rfl)) (slContains Q (allN rs ++ left) cq j w hxQ (by unfold maxLen; omega)) ?_
  rintro _ w ⟨rfl, hb⟩
  refine ⟨_, rfl, ?_⟩
  replace H := H.toBelow hb; clear hb
  refine Y.v (Ev.not rfl) <| Y.z ?_
  refine WP.cond rfl (fun hc20 => ?_) (fun hc20 => ?_)
  ·refine Y.qr <| Y.b rfl <| Y.z ?_
   refine WP.ret ⟨_, rfl, ?_⟩
   have hni : ¬ (j : Int) ∈ allN rs ++ left := by simpa using hc20
   have hlt : j < ns.length := by simpa using hc18
   have hg : ¬ goodAll ns.length (allN rs ++ left) = true := fun h => hni (((good_prog hnd).1 h).1 j hlt)
   exact ⟨by rw [e1, if_neg hg]; rfl, H.below⟩
  refine Y.k <| Y.r <| Y.v (Y.p rfl rfl) <| Y.a rfl <| Y.z ?_
  have hii : (j : Int) ∈ allN rs ++ left := of_decide_eq_true (by simpa only [Bool.not_eq_false'] using hc20)
  have hlt : j < ns.length := by simpa using hc18
  refine ⟨Y.ag, k - 1, by omega, j + 1, by omega, rfl, fun i hi => ?_, H⟩
  rcases Nat.lt_succ_iff_lt_or_eq.1 hi with h | rfl
  ·exact hin i h
  ·exact hii
 have hj : j = ns.length := by simp at hc18; omega
 subst hj
 refine WP.exit <| XB.hit <| Y.q <| WP.block <| Y.qr <| Y.v (Ev.mvS rfl) <| Y.v (Y.n rfl) <| Y.fa rfl rfl <| Y.j H 1 rfl rfl rfl <| Y.v (Y.n rfl) <| Y.v (Ev.gtr rfl rfl) <| Y.v (Ev.asB rfl) <| Y.z ?_
 refine WP.cond rfl (fun hc23 => ?_) (fun hc23 => ?_)
 ·refine Y.qr <| Y.b rfl <| Y.z ?_
  refine WP.ret ⟨_, rfl, ?_⟩
  have hlt : ns.length < (allN rs ++ left).length := by simp at hc23; simp; omega
  have hg : ¬ goodAll ns.length (allN rs ++ left) = true := fun h => absurd ((good_prog hnd).1 h).2 (by omega)
  exact ⟨by rw [e1, if_neg hg]; rfl, H.below⟩
 have hlt : ¬ ns.length < (allN rs ++ left).length := by simp at hc23; simp; omega
 have hg : goodAll ns.length (allN rs ++ left) = true := (good_prog hnd).2 ⟨hin, by omega⟩
 rw [e1, if_pos hg]
 refine Y.qr <| Y.fa rfl rfl <| Y.j H 0 rfl rfl rfl <| OPS.call (d := some 77) rfl rfl rfl (EvC.func (fun_run rfl)) (slIsSorted F left cf w (hF.sh H) (by unfold maxLen; omega)) ?_
 rintro _ w ⟨rfl, hb⟩
 refine ⟨_, rfl, ?_⟩
 replace H := H.toBelow hb; clear hb
 refine Y.v (Ev.not rfl) <| Y.v (Ev.asB rfl) <| Y.z ?_
 refine WP.cond rfl (fun hc25 => ?_) (fun hc25 => ?_)
 ·refine Y.qr <| Y.b rfl <| Y.z ?_
  refine WP.ret ⟨_, rfl, ?_⟩
  exact ⟨by rw [if_neg (by simpa using hc25)]; rfl, H.below⟩
 refine Y.k <| Y.qr <| Y.b rfl <| Y.z ?_
 refine WP.ret ⟨_, rfl, ?_⟩
 exact ⟨by rw [if_pos (by simpa using hc25)]; rfl, H.below⟩
end Go.Proofs.YthobaaefdehoiaaGreat

/-
 Plain: the chapter's example.
-/
set_option linter.all false
namespace Go.Proofs.YthobaaefdehoiaaGreat
open Go Go.W Go.RowKit
end Go.Proofs.YthobaaefdehoiaaGreat

/-
 Walks: the laws TruckChecks, TruckWalks, TruckFeasible.
-/
set_option linter.all false
namespace Go.Proofs.YthobaaefdehoiaaGreat
open Go Go.W Go.RowKit
structure NightAt (w : World) (A B C : Option Addr) (l : List Edg) (ts : List Truck) (ns : List Need) (cc : Nat) : Prop where
 l : EdgsAt w A l
 t : RowsAt 4 truckCells w B ts
 n : RowsAt 2 needCells w C ns
 c : ns.length ≤ cc
theorem NightAt.below {w w' : World} {A B C : Option Addr} {l : List Edg} {ts : List Truck} {ns : List Need} {cc : Nat} (h : NightAt w A B C l ts ns cc) (hb : Below w.heap.size w w') : NightAt w' A B C l ts ns cc := ⟨h.l.below hb, h.t.below hb, h.n.below hb, h.c⟩
theorem NightAt.sh {w w' : World} {A B C : Option Addr} {l : List Edg} {ts : List Truck} {ns : List Need} {cc : Nat} {L : List Blk} (h : NightAt w A B C l ts ns cc) (H : SH w [] w' L) : NightAt w' A B C l ts ns cc := h.below H.below
structure RtsAt0 (w : World) (A : Option Addr) (rs : List Rt) : Prop where
 rows : RowsAt 2 rtCells w A rs
 ints : ∀ r ∈ rs, IntsAt w r.nd.A r.nd.l
 cap : ∀ r ∈ rs, r.nd.l.length ≤ r.nd.cap
end Go.Proofs.YthobaaefdehoiaaGreat

/-
 The law TruckWalk.
-/
set_option linter.all false
namespace Go.Proofs.YthobaaefdehoiaaGreat
open Go Go.W Go.RowKit
section
variable {D : Nat → Nat → Int} {cap hd : Int} {ns : List Need} {rn : List Int} {s0 : TS}
theorem goE_at (h : goE D cap hd ns rn s0 = 0) {j : Nat} (hj : j < rn.length) : visitE (goD D ns rn[j] (goT D hd ns (rn.take j) s0)) cap (needAt ns rn[j]) (goT D hd ns (rn.take j) s0) = 0 := by
 have h2 := goE_app D cap hd ns (rn.take j) (rn.drop j) s0
 rw [List.take_append_drop, h] at h2
 by_cases h3 : goE D cap hd ns (rn.take j) s0 = 0
 ·rw [if_neg (by simp [h3]), List.drop_eq_getElem_cons hj] at h2
  simp only [goE] at h2
  by_cases h4 : visitE (goD D ns rn[j] (goT D hd ns (rn.take j) s0)) cap (needAt ns rn[j]) (goT D hd ns (rn.take j) s0) = 0
  ·exact h4
  ·rw [if_pos h4] at h2; exact h2.symm
 ·rw [if_pos h3] at h2; exact absurd h2.symm h3
theorem goT_succ {j : Nat} (hj : j < rn.length) : goT D hd ns (rn.take (j + 1)) s0 = visitT (goD D ns rn[j] (goT D hd ns (rn.take j) s0)) hd (needAt ns rn[j]) (goT D hd ns (rn.take j) s0) := by
 rw [List.take_succ_eq_append_getElem hj, goT_app]; rfl
end
structure WalkOk (m q : Nat) (l : List Edg) (ts : List Truck) (ns : List Need) (hd : Int) (rn : List Int) (t : Truck) : Prop where
 night : NightOk m l ts ns hd
 hq : q < ts.length
 ht : ts[q]? = some t
 tr : (0 ≤ t.depot ∧ t.depot < m) ∧ (1 ≤ t.cap ∧ t.cap ≤ 32) ∧ 0 ≤ t.from_ ∧ t.from_ ≤ t.to_ ∧ t.to_ ≤ 86400
 hr : ∀ i ∈ rn, 0 ≤ i ∧ i < ns.length
 nd : rn.Nodup
 go : goE (roadD m l) t.cap hd ns rn (startT t) = 0
 home : homeE (roadT m l (goT (roadD m l) hd ns rn (startT t)).at_ t.depot.toNat) hd t (goT (roadD m l) hd ns rn (startT t)) = 0
 V : outV m l ts ns hd q rn = goV (roadD m l) hd ns rn (startT t)
 B : outB' m l ts ns hd q rn = (goT (roadD m l) hd ns rn (startT t)).now + roadT m l (goT (roadD m l) hd ns rn (startT t)).at_ t.depot.toNat + (goT (roadD m l) hd ns rn (startT t)).load * hd
 D : outD m l ts ns hd q rn = (goT (roadD m l) hd ns rn (startT t)).driven + roadT m l (goT (roadD m l) hd ns rn (startT t)).at_ t.depot.toNat
theorem walkOk_of {n hd rt : Int} {l : List Edg} {ts : List Truck} {ns : List Need} {rn : List Int} (h : walkE n l ts ns hd rt rn = 0) : ∃ (m q : Nat) (t : Truck), n = m ∧ rt = q ∧ WalkOk m q l ts ns hd rn t := by
 obtain ⟨h1, h2⟩ := walkE_route h
 obtain ⟨m, rfl, hN⟩ := nightOk_of h1
 obtain ⟨hrt, hrr, hrd, _⟩ := routeOk_of h2
 obtain ⟨q, rfl⟩ := Int.eq_ofNat_of_zero_le hrt.1
 have hq : q < ts.length := by omega
 have hgt : ts.getD (q : Int).toNat default = ts[q] := by simp [hq]
 have h3 := h
 rw [walkE, if_neg (by simp [h1]), if_neg (by simp [h2])] at h3
 unfold endT at h3
 rw [hgt] at h3
 have hgo : goE (roadD m l) ts[q].cap hd ns rn (startT ts[q]) = 0 := by
  by_cases h4 : goE (roadD m l) ts[q].cap hd ns rn (startT ts[q]) = 0
  ·exact h4
  ·rw [if_pos h4] at h3; exact h3
 rw [if_neg (by simp [hgo])] at h3
 refine ⟨m, q, ts[q], rfl, rfl, hN, hq, by simp [hq], hN.tr _ (List.getElem_mem hq), hrr, hrd, hgo, by simpa [roadD] using h3, ?_, ?_, ?_⟩
 ·rw [outV, if_pos h, walkV, hgt]
 ·rw [outB', if_pos h, walkT, endT, hgt]; simp [homeT, roadD]
 ·rw [outD, if_pos h, walkT, endT, hgt]; simp [homeT, roadD]
theorem WalkOk.ts {m q : Nat} {l : List Edg} {ts : List Truck} {ns : List Need} {hd : Int} {rn : List Int} {t : Truck} (h : WalkOk m q l ts ns hd rn t) : ∀ (j : Nat), j ≤ rn.length → TSOk m t.cap j (goT (roadD m l) hd ns (rn.take j) (startT t))
 | 0, _ => by rw [List.take_zero]; exact TSOk.start h.tr
 | j + 1, hj => by
  have hlt : j < rn.length := by omega
  have ih := h.ts j (by omega)
  have hv := goE_at h.go hlt
  obtain ⟨hi0, hi1⟩ := h.hr rn[j] (List.getElem_mem hlt)
  obtain ⟨ni, hni⟩ := Int.eq_ofNat_of_zero_le hi0
  have hnl : ni < ns.length := by omega
  have hna : needAt ns rn[j] = ns[ni] := by rw [hni]; simp [needAt, hnl]
  rw [goT_succ hlt]
  unfold goD roadD at hv ⊢
  rw [hna] at hv ⊢
  simp only [Int.toNat_natCast] at hv ⊢
  exact ih.step h.night.road (h.night.nd ns[ni] (List.getElem_mem hnl)) h.night.hh hv
end Go.Proofs.YthobaaefdehoiaaGreat

/-
 The law TruckBegins.
-/
set_option linter.all false
namespace Go.Proofs.YthobaaefdehoiaaGreat
open Go Go.W Go.RowKit
theorem RD.tri {n a b : Nat} {l : List Edg} {K K' : Nat → Bool} {D D' : Nat → Int} (h : RoadOk n l) (h1 : RD l n a K D) (h2 : RD l n b K' D') (hb : b < n) (hk : K b = true) : ∀ v, v < n → K' v = true → K v = true ∧ D v ≤ D b + D' v := by
 have key : ∀ (m : Nat) (v : Nat), v < n → K' v = true → D' v ≤ m → K v = true ∧ D v ≤ D b + D' v := by
  intro m
  induction m with
  | zero =>
   intro v hv hk' hm
   by_cases hvs : v = b
   ·subst hvs; exact ⟨hk, by rw [h2.src.2]; omega⟩
   ·obtain ⟨u, i, w, hu, hku, hE, hd⟩ := h2.par v hv hk' hvs
    have := h2.nn u hu hku
    have := hE.pos h
    omega
  | succ m ih =>
   intro v hv hk' hm
   by_cases hvs : v = b
   ·subst hvs; exact ⟨hk, by rw [h2.src.2]; omega⟩
   ·obtain ⟨u, i, w, hu, hku, hE, hd⟩ := h2.par v hv hk' hvs
    have hp := hE.pos h
    obtain ⟨q1, q2⟩ := ih u hu hku (by omega)
    obtain ⟨q3, q4⟩ := h1.clo i u v w hE hu hv q1
    exact ⟨q3, by omega⟩
 intro v hv hk'
 exact key (D' v).toNat v hv hk' (by omega)
theorem roadT_nn {n s v : Nat} {l : List Edg} {K : Nat → Bool} {D : Nat → Int} (hok : RoadOk n l) (hR : RD l n s K D) (hv : v < n) (h : 0 ≤ roadT n l s v) : K v = true ∧ roadT n l s v = D v := by
 rw [roadT_eq hok hR hv] at h ⊢
 cases hk : K v with
 | true => simp
 | false => rw [hk] at h; simp at h
theorem roadT_tri {n a b c : Nat} {l : List Edg} (hok : RoadOk n l) (ha : a < n) (hb : b < n) (hc : c < n) (h1 : 0 ≤ roadT n l a b) (h2 : 0 ≤ roadT n l b c) : 0 ≤ roadT n l a c ∧ roadT n l a c ≤ roadT n l a b + roadT n l b c := by
 obtain ⟨K, D, hR⟩ := rd_exists hok ha
 obtain ⟨K', D', hR'⟩ := rd_exists hok hb
 obtain ⟨k1, e1⟩ := roadT_nn hok hR hb h1
 obtain ⟨k2, e2⟩ := roadT_nn hok hR' hc h2
 obtain ⟨k3, h3⟩ := hR.tri hok hR' hb k1 c hc k2
 have e3 : roadT n l a c = D c := by rw [roadT_eq hok hR hc, if_pos k3]
 rw [e1, e2, e3]
 exact ⟨hR.nn c hc k3, h3⟩
section
variable {m q : Nat} {l : List Edg} {ts : List Truck} {ns : List Need} {hd : Int} {rn : List Int} {t : Truck}
end
end Go.Proofs.YthobaaefdehoiaaGreat

/-
 The law TruckServes.
-/
set_option linter.all false
namespace Go.Proofs.YthobaaefdehoiaaGreat
open Go Go.W Go.RowKit
structure PlanOk (n : Int) (l : List Edg) (ts : List Truck) (ns : List Need) (hd : Int) (rs : List Rt) (left : List Int) : Prop where
 night : nightErr n l ts ns hd = 0
 walks : ∀ i (hi : i < rs.length), walkE n l ts ns hd rs[i].trk rs[i].nd.l = 0
 trk : (rs.map (·.trk)).Nodup
 nd : (allN rs ++ left).Nodup
 good : goodAll ns.length (allN rs ++ left) = true
 sorted : sortedB left = true
theorem routesE_ok {n : Int} {l : List Edg} {ts : List Truck} {ns : List Need} {hd : Int} : ∀ {rs : List Rt}, routesE n l ts ns hd rs = 0 → ∀ i (hi : i < rs.length), walkE n l ts ns hd rs[i].trk rs[i].nd.l = 0
 | [], _, i, hi => by simp at hi
 | r :: rs, h, i, hi => by
  rw [routesE] at h
  have h0 : walkE n l ts ns hd r.trk r.nd.l = 0 := by
   by_cases h1 : walkE n l ts ns hd r.trk r.nd.l = 0
   ·exact h1
   ·rw [if_pos h1] at h; exact h
  rw [if_neg (by simp [h0])] at h
  cases i with
  | zero => exact h0
  | succ i => exact routesE_ok h i (by simpa using hi)
theorem planOk_of {n : Int} {l : List Edg} {ts : List Truck} {ns : List Need} {hd : Int} {rs : List Rt} {left : List Int} (h : planErr n l ts ns hd rs left = 0) : PlanOk n l ts ns hd rs left := by
 unfold planErr at h
 split at h
 ·rename_i h1; exact absurd h h1
 ·rename_i h1
  split at h
  ·rename_i h2; exact absurd h h2
  ·rename_i h2
   split at h
   ·cases h
   ·rename_i h3
    split at h
    ·rename_i h4
     split at h
     ·rename_i h5
      have h3' : twiceB (rs.map (·.trk)) = false ∧ twiceB (allN rs ++ left) = false := by simpa using h3
      exact ⟨by simpa using h1, routesE_ok (by simpa using h2), by simpa [twiceB] using h3'.1, by simpa [twiceB] using h3'.2, h4, h5⟩
     ·cases h
    ·cases h
end Go.Proofs.YthobaaefdehoiaaGreat

/-
 Walks: flow.node, flow.Check, flow.ends.
-/
set_option linter.all false
namespace Go.Proofs.YthobaaefdehoiaaGreat.Flo
open Go Go.W Go.RowKit
structure Arc where
 f : Int
 t : Int
 cap : Int
 cost : Int
def arcCells (a : Arc) : List Value := [I a.f, I a.t, I a.cap, I a.cost]
abbrev ArcsAt := RowsAt 4 arcCells
def isNode (n k : Int) : Bool := decide (0 ≤ k) && decide (k < n)
theorem flowNode (n k : Int) (A : Option Addr) (m cap : Nat) (w0 : World) :
  Calls Tryz.prog 89 #[.agg #[I n, .slice A m cap], I k] w0 fun e w' => e = .returned (.bool (isNode n k)) ∧ Below w0.heap.size w0 w' := by
 have H := SH.refl w0
 refine Calls.ofWP Tryz.func89 rfl Tryz.results89 Tryz.ntmps89 rfl <| Y.qr <| Y.bx (cA rfl) H ?_
 clear H; intro g2 w H
 refine Y.v (Ev.asB rfl) <| Y.z <| Y.qr <| Y.a rfl <| Y.v (Ev.leq rfl rfl) <| Y.v (Ev.mvB rfl) <| Y.g rfl rfl (fun hg => Y.m rfl) <| Y.g rfl rfl (fun hg => Y.f rfl rfl) <| Y.y rfl rfl H 0 (fun hg => gvE hg rfl) rfl rfl <| Y.g rfl rfl (fun hg => Ev.lss (gvE hg rfl) (gvE hg rfl)) <| Y.v (Ev.pickAnd rfl rfl rfl) <| Y.v (Ev.asB rfl) <| Y.z ?_
 refine WP.ret ⟨_, rfl, ?_⟩
 exact ⟨rfl, H.below⟩
def arcBad (n : Int) (a : Arc) : Bool := (!isNode n a.f) || (!isNode n a.t)
def arcRange (a : Arc) : Bool := decide (a.cap < 0) || decide (65536 < a.cap) || decide (a.cost < 0) || decide (65536 < a.cost)
def arcsErr (n : Int) : List Arc → Int
 | [] => 0
 | a :: l => if arcBad n a = true then 7 else if arcRange a = true then 1 else arcsErr n l
def netErr (n : Int) (l : List Arc) : Int := if (decide (n < 1) || decide (64 < n)) = true then 1 else if (512 : Int) < l.length then 8 else arcsErr n l
theorem arcsErr_drop {n : Int} {l : List Arc} : ∀ {j : Nat}, j ≤ l.length → (∀ i (hi : i < l.length), i < j → arcBad n l[i] = false ∧ arcRange l[i] = false) → arcsErr n l = arcsErr n (l.drop j)
 | 0, _, _ => rfl
 | j + 1, hj, h => by
  rw [arcsErr_drop (j := j) (by omega) (fun i hi hij => h i hi (by omega)), List.drop_eq_getElem_cons (show j < l.length by omega), arcsErr]
  have := h j (by omega) (by omega)
  simp [this.1, this.2]
set_option maxHeartbeats 400000 in
theorem flowCheck (n : Int) (A : Option Addr) (l : List Arc) (cap : Nat) (w0 : World) (hz : ArcsAt w0 A l) :
  Calls Tryz.prog 88 #[.agg #[I n, .slice A l.length cap]] w0 fun e w' => e = .returned (I (netErr n l)) ∧ Below w0.heap.size w0 w' := by
 have H := SH.refl w0
 refine Calls.ofWP Tryz.func88 rfl Tryz.results88 Tryz.ntmps88 rfl <| Y.qr <| Y.bx (cA rfl) H ?_
 clear H; intro g1 w H
 refine Y.b rfl <| Y.z <| Y.q <| Y.qr <| Y.fa rfl rfl <| Y.j H 0 rfl rfl rfl <| Y.v (Ev.lss rfl rfl) <| Y.v (Ev.mvB rfl) <| Y.g rfl rfl (fun hg => Y.f rfl rfl) <| Y.y rfl rfl H 0 (fun hg => gvE hg rfl) rfl rfl <| Y.g rfl rfl (fun hg => Ev.gtr (gvE hg rfl) rfl) <| Y.v (Ev.pickOr rfl rfl rfl) <| Y.z ?_
 refine WP.cond rfl (fun hc1 => ?_) (fun hc1 => ?_)
 ·refine Y.qr <| Y.b rfl <| Y.z ?_
  refine WP.ret ⟨_, rfl, ?_⟩
  exact ⟨by rw [netErr, if_pos hc1]; rfl, H.below⟩
 refine Y.k <| Y.q <| Y.qr <| Y.fa rfl rfl <| Y.j H 0 rfl rfl rfl <| Y.v (Y.n rfl) <| Y.v (Ev.gtr rfl rfl) <| Y.z ?_
 refine WP.cond rfl (fun hc3 => ?_) (fun hc3 => ?_)
 ·refine Y.qr <| Y.b rfl <| Y.z ?_
  refine WP.ret ⟨_, rfl, ?_⟩
  exact ⟨by rw [netErr, if_neg (by simp [hc1]), if_pos (by simpa using hc3)]; rfl, H.below⟩
 have hl : l.length ≤ 512 := by simp at hc3; omega
 have e0 : netErr n l = arcsErr n l := by rw [netErr, if_neg (by simp [hc1]), if_neg (by simpa using hc3)]
 refine Y.k <| Y.q <| Y.qr <| Y.fa rfl rfl <| Y.j H 0 rfl rfl rfl <| Y.v (Y.n rfl) <| Y.a rfl <| Y.z <| WP.block <| WP.loop [2, 4, 20, 21, 22, 23, 24, 25, 26, 27, 28, 29, 30, 31, 32, 33, 34, 35, 36, 37, 38, 39, 40, 41, 42, 43, 44, 45, 46, 47, 48, 49, 50, 51, 52, 53, 54] (fun k e w' => ∃ j : Nat, j + k = l.length ∧ e 20 = .int .i64 j ∧ SH w0 [] w' [⟨g1, 101, [I n, .slice A l.length cap]⟩] ∧ ∀ i (hi : i < l.length), i < j → arcBad n l[i] = false ∧ arcRange l[i] = false) (l.length) (⟨0, by omega, rfl, H, fun i _ hi => absurd hi (by omega)⟩) ?_
 clear H
 rintro k u w ⟨j, hk, h20, H, hall⟩
 refine WP.know (t := 20) h20 <| Y.qr <| Y.v (Ev.lss rfl rfl) <| Y.z <| Y.q ?_
 refine WP.cond rfl (fun hc6 => ?_) (fun hc6 => ?_)
 ·have hlt : j < l.length := by simpa using hc6
  obtain ⟨b, o, rfl, hc⟩ := hz j hlt
  have hc' := cellsAt_sh H hc
  refine Y.k <| Y.q <| WP.block <| Y.qr <| Y.v (Y.X rfl rfl rfl rfl rfl) <| Y.v (by (change Ev _ _ _ _ (Op.load 123 (Operand.tmp 22)) _; exact Ev.loadN (arcCells l[j]) (agg_run rfl) (size_run rfl) rfl hc')) <| Y.al H rfl rfl ?_
  clear H; intro g4 w H
  refine Y.ss 0 H rfl (cA rfl) rfl ?_
  clear H; intro w H
  refine Y.z <| Y.q <| Y.qr <| Y.v (Y.o H 1 rfl rfl) <| Y.fa rfl rfl <| Y.j H 0 rfl rfl rfl <| OPS.call (d := some 27) rfl rfl rfl (EvC.func (fun_run rfl)) (flowNode n l[j].f _ _ _ _) ?_
  rintro _ w ⟨rfl, hb⟩
  refine ⟨_, rfl, ?_⟩
  replace H := H.toBelow hb; clear hb
  refine Y.v (Ev.not rfl) <| Y.v (Ev.mvB rfl) <| Y.g rfl rfl (fun hg => Y.o H 1 rfl rfl) <| Y.g rfl rfl (fun hg => Y.f rfl rfl) <| Y.y rfl rfl H 0 (fun hg => gvE hg rfl) rfl rfl <| OPS.gcall0 (f := 89) (flowNode n l[j].t _ _ _ _) (fun _ _ h => h) rfl rfl rfl rfl rfl (fun hg => EvC.conv (EvC.func (fun_run rfl)) (l2 (gvE hg rfl) (gvE hg rfl))) ?_
  intro w hbc; replace H := H.toBelow hbc
  refine Y.g rfl rfl (fun hg => Ev.not (gvE hg rfl)) <| Y.v (Ev.pickOr rfl rfl rfl) <| Y.z ?_
  refine WP.cond rfl (fun hc8 => ?_) (fun hc8 => ?_)
  ·refine Y.qr <| Y.b rfl <| Y.z ?_
   refine WP.ret ⟨_, rfl, ?_⟩
   exact ⟨by rw [e0, arcsErr_drop (by omega) hall, List.drop_eq_getElem_cons hlt, arcsErr, if_pos (show arcBad n l[j] = true from hc8)]; rfl, H.below⟩
  refine Y.k <| Y.qr <| Y.fa rfl rfl <| Y.j H 0 rfl rfl rfl <| Y.v (Ev.lss rfl rfl) <| Y.v (Ev.mvB rfl) <| Y.g rfl rfl (fun hg => Y.f rfl rfl) <| Y.y rfl rfl H 0 (fun hg => gvE hg rfl) rfl rfl <| Y.g rfl rfl (fun hg => Ev.gtr (gvE hg rfl) rfl) <| Y.v (Ev.pickOr rfl rfl rfl) <| Y.v (Ev.mvB rfl) <| Y.g rfl rfl (fun hg => Y.f rfl rfl) <| Y.y rfl rfl H 0 (fun hg => gvE hg rfl) rfl rfl <| Y.g rfl rfl (fun hg => Ev.lss (gvE hg rfl) rfl) <| Y.v (Ev.pickOr rfl rfl rfl) <| Y.v (Ev.mvB rfl) <| Y.g rfl rfl (fun hg => Y.f rfl rfl) <| Y.y rfl rfl H 0 (fun hg => gvE hg rfl) rfl rfl <| Y.g rfl rfl (fun hg => Ev.gtr (gvE hg rfl) rfl) <| Y.v (Ev.pickOr rfl rfl rfl) <| Y.z ?_
  refine WP.cond rfl (fun hc10 => ?_) (fun hc10 => ?_)
  ·refine Y.qr <| Y.b rfl <| Y.z ?_
   refine WP.ret ⟨_, rfl, ?_⟩
   exact ⟨by rw [e0, arcsErr_drop (by omega) hall, List.drop_eq_getElem_cons hlt, arcsErr, if_neg (by rw [show arcBad n l[j] = false from hc8]; simp), if_pos (show arcRange l[j] = true from hc10)]; rfl, H.below⟩
  refine Y.k <| Y.r <| Y.v (Y.p rfl rfl) <| Y.a rfl <| Y.z ?_
  refine ⟨Y.ag, k - 1, by omega, j + 1, by omega, rfl, H.drop (by simp), fun i hi hij => ?_⟩
  rcases Nat.lt_succ_iff_lt_or_eq.1 hij with h | rfl
  ·exact hall i hi h
  ·exact ⟨hc8, hc10⟩
 refine WP.exit <| XB.hit <| Y.qr <| Y.b rfl <| Y.z ?_
 refine WP.ret ⟨_, rfl, ?_⟩
 have : j = l.length := by simp at hc6; omega
 subst this
 exact ⟨by rw [e0, arcsErr_drop (by omega) hall]; simp [arcsErr]; rfl, H.below⟩
def endsErr (n : Int) (l : List Arc) (f t : Int) : Int :=
 if netErr n l ≠ 0 then netErr n l else if ((!isNode n f) || (!isNode n t)) = true then 7 else if f = t then 1 else 0
theorem flowEnds (n f t : Int) (A : Option Addr) (l : List Arc) (cap : Nat) (w0 : World) (hz : ArcsAt w0 A l) :
  Calls Tryz.prog 71 #[.agg #[I n, .slice A l.length cap], I f, I t] w0 fun e w' => e = .returned (I (endsErr n l f t)) ∧ Below w0.heap.size w0 w' := by
 have H := SH.refl w0
 refine Calls.ofWP Tryz.func71 rfl Tryz.results71 Tryz.ntmps71 rfl <| Y.qr <| Y.bx (cA rfl) H ?_
 clear H; intro g3 w H
 refine Y.b rfl <| Y.z <| Y.q <| Y.qr <| Y.v (Y.o H 0 rfl rfl) <| OPS.call (d := some 9) rfl rfl rfl (EvC.func (fun_run rfl)) (flowCheck n A l cap w (hz.sh H)) ?_
 rintro _ w ⟨rfl, hb⟩
 refine ⟨_, rfl, ?_⟩
 replace H := H.toBelow hb; clear hb
 refine Y.b rfl <| Y.z <| WP.block <| Y.qr <| Y.a rfl <| Y.v (Ev.neq rfl rfl) <| Y.v (Ev.asB rfl) <| Y.z ?_
 refine WP.cond rfl (fun hc2 => ?_) (fun hc2 => ?_)
 ·refine Y.qr <| Y.a rfl <| Y.b rfl <| Y.z ?_
  refine WP.ret ⟨_, rfl, ?_⟩
  have h : netErr n l ≠ 0 := by simpa using hc2
  exact ⟨by rw [endsErr, if_pos h]; rfl, H.below⟩
 have h0 : netErr n l = 0 := by simpa using hc2
 refine Y.qr <| Y.v (Y.o H 0 rfl rfl) <| Y.a rfl <| OPS.call (d := some 17) rfl rfl rfl (EvC.func (fun_run rfl)) (flowNode n f _ _ _ _) ?_
 rintro _ w ⟨rfl, hb⟩
 refine ⟨_, rfl, ?_⟩
 replace H := H.toBelow hb; clear hb
 refine Y.v (Ev.not rfl) <| Y.v (Ev.mvB rfl) <| Y.g rfl rfl (fun hg => Y.o H 0 rfl rfl) <| Y.g rfl rfl (fun hg => Y.m rfl) <| OPS.gcall0 (f := 89) (flowNode n t _ _ _ _) (fun _ _ h => h) rfl rfl rfl rfl rfl (fun hg => EvC.conv (EvC.func (fun_run rfl)) (l2 (gvE hg rfl) (gvE hg rfl))) ?_
 intro w hbc; replace H := H.toBelow hbc
 refine Y.g rfl rfl (fun hg => Ev.not (gvE hg rfl)) <| Y.v (Ev.pickOr rfl rfl rfl) <| Y.v (Ev.asB rfl) <| Y.z ?_
 refine WP.cond rfl (fun hc4 => ?_) (fun hc4 => ?_)
 ·refine Y.qr <| Y.b rfl <| Y.z ?_
  refine WP.ret ⟨_, rfl, ?_⟩
  exact ⟨by rw [endsErr, if_neg (by simp [h0]), if_pos hc4]; rfl, H.below⟩
 refine Y.qr <| Y.a rfl <| Y.a rfl <| Y.v (Ev.eql rfl rfl) <| Y.v (Ev.asB rfl) <| Y.z ?_
 refine WP.cond rfl (fun hc6 => ?_) (fun hc6 => ?_)
 ·refine Y.qr <| Y.b rfl <| Y.z ?_
  refine WP.ret ⟨_, rfl, ?_⟩
  exact ⟨by rw [endsErr, if_neg (by simp [h0]), if_neg (by simp [hc4]), if_pos (by simpa using hc6)]; rfl, H.below⟩
 refine Y.k <| Y.qr <| Y.b rfl <| Y.z ?_
 refine WP.ret ⟨_, rfl, ?_⟩
 exact ⟨by rw [endsErr, if_neg (by simp [h0]), if_neg (by simp [hc4]), if_neg (by simpa using hc6)]; rfl, H.below⟩
end Go.Proofs.YthobaaefdehoiaaGreat.Flo

/-
 Walks: residue.each (whatever function it calls), the function that reach hands to it, reach.
-/
set_option linter.all false
namespace Go.Proofs.YthobaaefdehoiaaGreat.Flo
open Go Go.W Go.RowKit
instance : Inhabited Arc := ⟨⟨0, 0, 0, 0⟩⟩
abbrev VisF (σ : Type) := σ → Int → Int → Nat → Int → Int → Bool → σ
def eachF {σ : Type} (vis : VisF σ) (i : Nat) (a : Arc) (x : Int) (s : σ) : σ := if x < a.cap then vis s a.f a.t i (a.cap - x) a.cost true else s
def eachB {σ : Type} (vis : VisF σ) (i : Nat) (a : Arc) (x : Int) (s : σ) : σ := if 0 < x then vis s a.t a.f i x (-a.cost) false else s
def eachM {σ : Type} (vis : VisF σ) (l : List Arc) (on : List Int) : Nat → σ → σ
 | 0, s => s
 | k + 1, s => eachB vis k (l.getD k default) (on.getD k 0) (eachF vis k (l.getD k default) (on.getD k 0) (eachM vis l on k s))
theorem eachM_succ {σ : Type} (vis : VisF σ) (l : List Arc) (on : List Int) (k : Nat) (s : σ) (h : k < l.length) (h2 : k < on.length) :
  eachM vis l on (k + 1) s = eachB vis k l[k] on[k] (eachF vis k l[k] on[k] (eachM vis l on k s)) := by
 rw [eachM]; simp [h, h2]
set_option maxHeartbeats 1000000 in
theorem flowEach {σ : Type} (vis : VisF σ) (Lv : σ → List Blk) (gs : List Nat) (hgs : ∀ s, (Lv s).map (·.g) = gs) (Inv : σ → Prop) (fv : Nat) (caps : List Value)
  (n : Int) (A B : Option Addr) (l : List Arc) (on : List Int) (cap cap2 : Nat) (s0 : σ) (w0 : World)
  (hfun : funT fv = true)
  (hz : ArcsAt w0 A l) (hA : l ≠ [] → Off A gs) (ho : IntsAt w0 B on) (hB : on ≠ [] → Off B gs) (hlen : on.length = l.length) (hl : l.length ≤ 4096)
  (hcap : ∀ i (h : i < l.length), -1000000 ≤ l[i].cap ∧ l[i].cap ≤ 1000000 ∧ -1000000 ≤ l[i].cost ∧ l[i].cost ≤ 1000000) (hon : ∀ i (h : i < on.length), -1000000000 ≤ on[i] ∧ on[i] ≤ 1000000000)
  (hvF : ∀ i (h : i < l.length) (h2 : i < on.length) s w, Inv s → on[i] < l[i].cap → SH w gs w (Lv s) → Calls Tryz.prog fv ([I l[i].f, I l[i].t, I i, I (l[i].cap - on[i]), I l[i].cost, .bool true] ++ caps).toArray w fun e w' => e = .returned (.tuple #[]) ∧ SH w gs w' (Lv (vis s l[i].f l[i].t i (l[i].cap - on[i]) l[i].cost true)))
  (hiF : ∀ i (h : i < l.length) (h2 : i < on.length) s, Inv s → on[i] < l[i].cap → Inv (vis s l[i].f l[i].t i (l[i].cap - on[i]) l[i].cost true))
  (hvB : ∀ i (h : i < l.length) (h2 : i < on.length) s w, Inv s → 0 < on[i] → SH w gs w (Lv s) → Calls Tryz.prog fv ([I l[i].t, I l[i].f, I i, I on[i], I (-l[i].cost), .bool false] ++ caps).toArray w fun e w' => e = .returned (.tuple #[]) ∧ SH w gs w' (Lv (vis s l[i].t l[i].f i on[i] (-l[i].cost) false)))
  (hiB : ∀ i (h : i < l.length) (h2 : i < on.length) s, Inv s → 0 < on[i] → Inv (vis s l[i].t l[i].f i on[i] (-l[i].cost) false))
  (hs0 : Inv s0) (H0 : SH w0 gs w0 (Lv s0)) :
  Calls Tryz.prog 77 #[.agg #[I n, .slice A l.length cap, .slice B on.length cap2], .func (.func fv) #[] caps.toArray] w0 fun e w' => e = .returned (.tuple #[]) ∧ SH w0 gs w' (Lv (eachM vis l on l.length s0)) := by
 have H := H0
 refine Calls.ofWP Tryz.func77 rfl Tryz.results77 Tryz.ntmps77 rfl <| Y.qr <| Y.bx (cA rfl) H ?_
 clear H; intro g2 w H
 refine Y.z <| Y.qr <| Y.fa rfl rfl <| Y.fa rfl rfl <| Y.j H 0 rfl rfl rfl <| Y.v (Y.n rfl) <| Y.a rfl <| Y.z <| WP.block <| WP.loop [4, 5, 10, 11, 12, 13, 14, 15, 16, 17, 18, 19, 20, 21, 22, 23, 24, 25, 26, 27, 28, 29, 30, 31, 32, 33, 34, 35, 36, 37, 38, 39, 40, 41, 42, 43, 44, 45, 46, 47, 48, 49, 50, 51, 52, 53, 54, 55, 56, 57, 58, 59, 60, 61] (fun k e w' => ∃ j : Nat, j + k = l.length ∧ e 10 = .int .i64 j ∧ SH w0 gs w' ([⟨g2, 127, [I n, .slice A l.length cap, .slice B on.length cap2]⟩] ++ Lv (eachM vis l on j s0)) ∧ Inv (eachM vis l on j s0)) (l.length) (⟨0, by omega, rfl, H, hs0⟩) ?_
 clear H
 rintro k u w ⟨j, hk, h10, H, hi⟩
 refine WP.know (t := 10) h10 ?_
 generalize hs : eachM vis l on j s0 = s at H hi
 refine Y.qr <| Y.v (Ev.lss rfl rfl) <| Y.z <| Y.q ?_
 refine WP.cond rfl (fun hc2 => ?_) (fun hc2 => ?_)
 ·have hlt : j < l.length := by simpa using hc2
  have hlt2 : j < on.length := by omega
  obtain ⟨b, o, rfl, hc⟩ := hz j hlt
  obtain ⟨b2, o2, rfl, hx⟩ := ho j hlt2
  have hbS : b ∉ gs := hA (List.ne_nil_of_length_pos (by omega)) b o rfl
  have hbS2 : b2 ∉ gs := hB (List.ne_nil_of_length_pos (by omega)) b2 o2 rfl
  have hc' := cellsAt_shS H hbS hc
  have hcb := hcap j hlt
  have hob := hon j hlt2
  refine Y.k <| Y.q <| WP.block <| Y.qr <| Y.a rfl <| Y.v (Y.X rfl rfl rfl rfl rfl) <| Y.v (by (change Ev _ _ _ _ (Op.load 123 (Operand.tmp 13)) _; exact Ev.loadN (arcCells l[j]) (agg_run rfl) (size_run rfl) rfl hc')) <| Y.al H rfl rfl ?_
  clear H; intro g5 w H
  refine Y.b rfl <| Y.ss 0 H rfl (cA rfl) rfl ?_
  clear H; intro w H
  refine Y.z <| Y.q <| Y.q <| WP.rstill mixed (by kernel_rfl) H ?_
  clear H; intro w hbw4 H
  refine Y.fa rfl rfl <| Y.j H 1 rfl rfl rfl <| Y.a rfl <| Y.v (Y.x rfl rfl rfl rfl) <| Y.v (Y.c (H.ldS (by assumption) (by assumption)) rfl) ?_
  refine Y.fa rfl rfl <| Y.j H 0 rfl rfl rfl <| Y.v (Ev.lss rfl rfl) <| OPS.nil_s ?_
  refine WP.cond rfl (fun hc4 => ?_) (fun hc4 => ?_)
  ·refine WP.rtail 16 mixed (by kernel_rfl) H ?_
   clear H; intro w hbw5 H
   refine Y.v (Ev.mvF rfl) <| Y.fa rfl rfl <| Y.j H 0 rfl rfl rfl <| Y.fa rfl rfl <| Y.j H 0 rfl rfl rfl <| Y.a rfl <| Y.fa rfl rfl <| Y.j H 0 rfl rfl rfl <| Y.fa rfl rfl <| Y.j H 1 rfl rfl rfl <| Y.a rfl <| Y.v (Y.x rfl rfl rfl rfl) <| Y.v (Y.c (H.ldS (by assumption) (by assumption)) rfl) ?_
   refine Y.v (Y.s rfl rfl) <| Y.fa rfl rfl <| Y.j H 0 rfl rfl rfl <| OPS.nil_s <| OPS.call (d := some 39) rfl rfl rfl (EvC.clos rfl (fun_run (by assumption))) (hvF j hlt hlt2 s _ hi (by simpa using hc4) (by rw [← hgs s]; exact H.restart ((List.sublist_cons_self _ _).trans (List.sublist_cons_self _ _)))) ?_
   rintro _ w ⟨rfl, Hc⟩
   refine ⟨_, rfl, ?_⟩
   replace H := SH.call (L1 := [⟨g5, 123, arcCells l[j]⟩, ⟨g2, 127, [I n, .slice (some ⟨b, o, none⟩) l.length cap, .slice (some ⟨b2, o2, none⟩) on.length cap2]⟩]) H (by rw [hgs s]; exact Hc)
   clear Hc
   replace hi := hiF j hlt hlt2 s hi (by simpa using hc4)
   have hs1 : eachF vis j l[j] on[j] s = vis s l[j].f l[j].t j (l[j].cap - on[j]) l[j].cost true := if_pos (by simpa using hc4)
   generalize vis s l[j].f l[j].t j (l[j].cap - on[j]) l[j].cost true = s1 at H hi hs1
   refine Y.z <| Y.qr <| Y.fa rfl rfl <| Y.j H 1 rfl rfl rfl <| Y.a rfl <| Y.v (Y.x rfl rfl rfl rfl) <| Y.v (Y.c (H.ldS (by assumption) (by assumption)) rfl) ?_
   refine Y.v (Ev.gtr rfl rfl) <| Y.z ?_
   refine WP.cond rfl (fun hc6 => ?_) (fun hc6 => ?_)
   ·refine WP.rtail 14 mixed (by kernel_rfl) H ?_
    clear H; intro w hbw7 H
    refine Y.v (Ev.mvF rfl) <| Y.fa rfl rfl <| Y.j H 0 rfl rfl rfl <| Y.fa rfl rfl <| Y.j H 0 rfl rfl rfl <| Y.a rfl <| Y.fa rfl rfl <| Y.j H 1 rfl rfl rfl <| Y.a rfl <| Y.v (Y.x rfl rfl rfl rfl) <| Y.v (Y.c (H.ldS (by assumption) (by assumption)) rfl) ?_
    refine Y.fa rfl rfl <| Y.j H 0 rfl rfl rfl <| Y.v (Ev.neg rfl (by unfold fits; omega)) <| OPS.nil_s <| OPS.call (d := some 60) rfl rfl rfl (EvC.clos rfl (fun_run (by assumption))) (hvB j hlt hlt2 s1 _ hi (by simpa using hc6) (by rw [← hgs s1]; exact H.restart ((List.sublist_cons_self _ _).trans (List.sublist_cons_self _ _)))) ?_
    rintro _ w ⟨rfl, Hc⟩
    refine ⟨_, rfl, ?_⟩
    replace H := SH.call (L1 := [⟨g5, 123, arcCells l[j]⟩, ⟨g2, 127, [I n, .slice (some ⟨b, o, none⟩) l.length cap, .slice (some ⟨b2, o2, none⟩) on.length cap2]⟩]) H (by rw [hgs s1]; exact Hc)
    clear Hc
    replace hi := hiB j hlt hlt2 s1 hi (by simpa using hc6)
    have hs2 : eachB vis j l[j] on[j] s1 = vis s1 l[j].t l[j].f j on[j] (-l[j].cost) false := if_pos (by simpa using hc6)
    refine Y.z <| Y.r <| Y.v (Y.p rfl rfl) <| Y.a rfl <| Y.z ?_
    have hfin : eachM vis l on (j + 1) s0 = eachB vis j l[j] on[j] s1 := by
     rw [eachM_succ vis l on j s0 hlt hlt2, hs]
     rw [hs1]
    refine ⟨Y.ag, k - 1, by omega, j + 1, by omega, rfl, ?_, ?_⟩
    ·rw [hfin, hs2]; exact H.drop (List.sublist_cons_self _ _)
    ·rw [hfin, hs2]; exact hi
   have hs2 : eachB vis j l[j] on[j] s1 = s1 := if_neg (by simpa using hc6)
   refine Y.k <| Y.r <| Y.v (Y.p rfl rfl) <| Y.a rfl <| Y.z ?_
   have hfin : eachM vis l on (j + 1) s0 = eachB vis j l[j] on[j] s1 := by
    rw [eachM_succ vis l on j s0 hlt hlt2, hs]
    rw [hs1]
   refine ⟨Y.ag, k - 1, by omega, j + 1, by omega, rfl, ?_, ?_⟩
   ·rw [hfin, hs2]; exact H.drop (List.sublist_cons_self _ _)
   ·rw [hfin, hs2]; exact hi
  have hs1 : eachF vis j l[j] on[j] s = s := if_neg (by simpa using hc4)
  generalize hss : s = s1 at H hi
  rw [hss] at hs1
  refine Y.k <| Y.qr <| Y.fa rfl rfl <| Y.j H 1 rfl rfl rfl <| Y.a rfl <| Y.v (Y.x rfl rfl rfl rfl) <| Y.v (Y.c (H.ldS (by assumption) (by assumption)) rfl) ?_
  refine Y.v (Ev.gtr rfl rfl) <| Y.z ?_
  refine WP.cond rfl (fun hc6 => ?_) (fun hc6 => ?_)
  ·refine WP.rtail 14 mixed (by kernel_rfl) H ?_
   clear H; intro w hbw7 H
   refine Y.v (Ev.mvF rfl) <| Y.fa rfl rfl <| Y.j H 0 rfl rfl rfl <| Y.fa rfl rfl <| Y.j H 0 rfl rfl rfl <| Y.a rfl <| Y.fa rfl rfl <| Y.j H 1 rfl rfl rfl <| Y.a rfl <| Y.v (Y.x rfl rfl rfl rfl) <| Y.v (Y.c (H.ldS (by assumption) (by assumption)) rfl) ?_
   refine Y.fa rfl rfl <| Y.j H 0 rfl rfl rfl <| Y.v (Ev.neg rfl (by unfold fits; omega)) <| OPS.nil_s <| OPS.call (d := some 60) rfl rfl rfl (EvC.clos rfl (fun_run (by assumption))) (hvB j hlt hlt2 s1 _ hi (by simpa using hc6) (by rw [← hgs s1]; exact H.restart ((List.sublist_cons_self _ _).trans (List.sublist_cons_self _ _)))) ?_
   rintro _ w ⟨rfl, Hc⟩
   refine ⟨_, rfl, ?_⟩
   replace H := SH.call (L1 := [⟨g5, 123, arcCells l[j]⟩, ⟨g2, 127, [I n, .slice (some ⟨b, o, none⟩) l.length cap, .slice (some ⟨b2, o2, none⟩) on.length cap2]⟩]) H (by rw [hgs s1]; exact Hc)
   clear Hc
   replace hi := hiB j hlt hlt2 s1 hi (by simpa using hc6)
   have hs2 : eachB vis j l[j] on[j] s1 = vis s1 l[j].t l[j].f j on[j] (-l[j].cost) false := if_pos (by simpa using hc6)
   refine Y.z <| Y.r <| Y.v (Y.p rfl rfl) <| Y.a rfl <| Y.z ?_
   have hfin : eachM vis l on (j + 1) s0 = eachB vis j l[j] on[j] s1 := by
    rw [eachM_succ vis l on j s0 hlt hlt2, hs]
    rw [hss, hs1]
   refine ⟨Y.ag, k - 1, by omega, j + 1, by omega, rfl, ?_, ?_⟩
   ·rw [hfin, hs2]; exact H.drop (List.sublist_cons_self _ _)
   ·rw [hfin, hs2]; exact hi
  have hs2 : eachB vis j l[j] on[j] s1 = s1 := if_neg (by simpa using hc6)
  refine Y.k <| Y.r <| Y.v (Y.p rfl rfl) <| Y.a rfl <| Y.z ?_
  have hfin : eachM vis l on (j + 1) s0 = eachB vis j l[j] on[j] s1 := by
   rw [eachM_succ vis l on j s0 hlt hlt2, hs]
   rw [hss, hs1]
  refine ⟨Y.ag, k - 1, by omega, j + 1, by omega, rfl, ?_, ?_⟩
  ·rw [hfin, hs2]; exact H.drop (List.sublist_cons_self _ _)
  ·rw [hfin, hs2]; exact hi
 refine WP.exit <| XB.hit <| ⟨_, rfl, ?_⟩
 have : j = l.length := by simp at hc2; omega
 subst this
 rw [hs]
 exact ⟨rfl, H.drop (List.sublist_cons_self _ _)⟩
end Go.Proofs.YthobaaefdehoiaaGreat.Flo

/-
 Walks: the function that reach hands to each; reach.
-/
set_option linter.all false
namespace Go.Proofs.YthobaaefdehoiaaGreat.Flo
open Go Go.W Go.RowKit
structure Step where
 from_ : Int
 arc : Int
 room : Int
 fwd : Bool
 known : Bool
 depth : Int
instance : Inhabited Step := ⟨⟨0, 0, 0, false, false, 0⟩⟩
def stepCells (s : Step) : List Value := [I s.from_, I s.arc, I s.room, Bo s.fwd, Bo s.known, I s.depth]
theorem stepCells_len (s : Step) : (stepCells s).length = 6 := rfl
abbrev RSt := List Step × Bool
def visC (d : Int) (s : RSt) (a b : Nat) : Bool := (((s.1.getD a default).known && decide ((s.1.getD a default).depth = d)) && !(s.1.getD b default).known) && decide (b < s.1.length)
def visR (d : Int) : VisF RSt := fun s a b arc room _ fwd =>
 if visC d s a.toNat b.toNat = true then (s.1.set b.toNat ⟨a, arc, room, fwd, true, d + 1⟩, true) else s
def reachLv (gs gd gg ga n : Nat) (d : Int) (s : RSt) : List Blk := [⟨gs, 128, [.slice (some ⟨ga, 0, none⟩) n n]⟩, ⟨gd, 3, [I d]⟩, ⟨gg, 4, [Bo s.2]⟩, ⟨ga, 132, s.1.flatMap stepCells⟩]
set_option maxHeartbeats 1000000 in
theorem reachVisit (gs gd gg ga n ai bi : Nat) (d room cost : Int) (arc : Nat) (fwd : Bool) (s : RSt) (w0 : World) (hn : s.1.length = n) (ha : ai < n) (hb : bi < n) (hd : 0 ≤ d) (hd2 : d ≤ 1000000)
  (H0 : SH w0 [gs, gd, gg, ga] w0 (reachLv gs gd gg ga n d s)) :
  Calls Tryz.prog 102 #[I ai, I bi, I arc, I room, I cost, .bool fwd, .pointer (some ⟨gs, 0, none⟩), .pointer (some ⟨gd, 0, none⟩), .pointer (some ⟨gg, 0, none⟩)] w0
   fun e w' => e = .returned (.tuple #[]) ∧ SH w0 [gs, gd, gg, ga] w' (reachLv gs gd gg ga n d (visR d s ai bi arc room cost fwd)) := by
 have H := H0
 unfold reachLv at H
 have hga : s.1.getD ai default = s.1[ai] := by simp [hn, ha]
 have hgb : s.1.getD bi default = s.1[bi] := by simp [hn, hb]
 refine Calls.ofWP Tryz.func102 rfl Tryz.results102 Tryz.ntmps102 rfl <| Y.q <| WP.rstill mixed (by kernel_rfl) H ?_
 clear H; intro w hbw0 H
 have hrow := rowsOwn' stepCells_len H 3 rfl
 obtain ⟨_, _, e1, a0, a1, a2, a3, a4, a5, _⟩ := hrow ai (by omega)
 cases e1
 obtain ⟨_, _, e1, b0, b1, b2, b3, b4, b5, _⟩ := hrow bi (by omega)
 cases e1
 refine Y.j H 0 rfl rfl rfl <| Y.a rfl <| Y.v (Y.X rfl rfl rfl rfl rfl) <| Y.fa rfl rfl <| Y.v (Y.c (by assumption) rfl) ?_
 refine Y.v (Ev.mvB rfl) <| Y.g rfl rfl (fun hg => Y.l H 0 rfl rfl rfl) <| Y.g rfl rfl (fun hg => Y.m rfl) <| Y.g rfl rfl (fun hg => Ev.indexAddr (el_run rfl) (size_run rfl) (gvE hg rfl) (gvE hg rfl) rfl (by omega)) <| Y.g rfl rfl (fun hg => Ev.fieldAddr (fld_run rfl) (gvE hg rfl)) <| Y.g rfl rfl (fun hg => Ev.load1 (agg_run rfl) (gvE hg rfl) (by assumption)) ?_
 refine Y.g rfl rfl (fun hg => Y.l H 1 rfl rfl rfl) <| Y.g rfl rfl (fun hg => Ev.eql (gvE hg rfl) (gvE hg rfl)) <| Y.v (Ev.pickAnd rfl rfl rfl) <| Y.v (Ev.mvB rfl) <| Y.g rfl rfl (fun hg => Y.l H 0 rfl rfl rfl) <| Y.g rfl rfl (fun hg => Y.m rfl) <| Y.g rfl rfl (fun hg => Ev.indexAddr (el_run rfl) (size_run rfl) (gvE hg rfl) (gvE hg rfl) rfl (by omega)) <| Y.g rfl rfl (fun hg => Ev.fieldAddr (fld_run rfl) (gvE hg rfl)) <| Y.g rfl rfl (fun hg => Ev.load1 (agg_run rfl) (gvE hg rfl) (by assumption)) ?_
 refine Y.g rfl rfl (fun hg => Ev.not (gvE hg rfl)) <| Y.v (Ev.pickAnd rfl rfl rfl) <| OPS.nil_s ?_
 refine WP.cond rfl (fun hc0 => ?_) (fun hc0 => ?_)
 ·have hc : visC d s ai bi = true := by rw [visC, hga, hgb, show decide (bi < s.1.length) = true by simp [hn, hb], Bool.and_true]; exact hc0
  have hv : visR d s ai bi arc room cost fwd = (s.1.set bi ⟨ai, arc, room, fwd, true, d + 1⟩, true) := by simp only [visR, Int.toNat_natCast, hc, if_true]
  refine Y.qr <| Y.j H 0 rfl rfl rfl <| Y.a rfl <| Y.a rfl <| Y.a rfl <| Y.a rfl <| Y.v (Ev.mvB rfl) <| Y.j H 1 rfl rfl rfl <| Y.v (Y.p rfl rfl) <| Y.v (Ev.build (bld_132_0_1_2_3_4_5 rfl rfl rfl rfl rfl rfl)) <| Y.v (Y.X rfl rfl rfl rfl rfl) <| OPS.store 3 _ rfl rfl rfl (size_run rfl) rfl rfl rfl rfl H rfl (by simp only [rows_length stepCells_len]; omega) ?_
  clear H; intro w H
  have hp := putL_rows stepCells_len s.1 bi ⟨ai, arc, room, fwd, true, d + 1⟩ (by omega)
  rw [Nat.zero_add] at H
  replace H : SH w0 [gs, gd, gg, ga] w [⟨gs, 128, [.slice (some ⟨ga, 0, none⟩) n n]⟩, ⟨gd, 3, [I d]⟩, ⟨gg, 4, [Bo s.2]⟩, ⟨ga, 132, putL (s.1.flatMap stepCells) (bi * 6) (stepCells ⟨ai, arc, room, fwd, true, d + 1⟩)⟩] := H
  rw [hp] at H
  refine Y.z <| Y.r <| Y.ss 2 H rfl (cB rfl) rfl ?_
  clear H; intro w H
  refine Y.z <| ⟨_, rfl, ?_⟩
  exact ⟨rfl, by rw [hv]; exact H⟩
 have hc : visC d s ai bi = false := by rw [visC, hga, hgb, show decide (bi < s.1.length) = true by simp [hn, hb], Bool.and_true]; exact hc0
 have hv : visR d s ai bi arc room cost fwd = s := by simp only [visR, Int.toNat_natCast, hc]; rfl
 refine Y.k <| ⟨_, rfl, ?_⟩
 exact ⟨rfl, by rw [hv]; exact H⟩
end Go.Proofs.YthobaaefdehoiaaGreat.Flo

/-
 Walk: reach.
-/
set_option linter.all false
namespace Go.Proofs.YthobaaefdehoiaaGreat.Flo
open Go Go.W Go.RowKit
def reachStep (l : List Arc) (on : List Int) (d : Int) (sts : List Step) : RSt := eachM (visR d) l on l.length (sts, false)
def reachIter (l : List Arc) (on : List Int) : Nat → Int → List Step → List Step
 | 0, _, sts => sts
 | f + 1, d, sts => if (reachStep l on d sts).2 = true then reachIter l on f (d + 1) (reachStep l on d sts).1 else (reachStep l on d sts).1
def reachInit (n f : Nat) : List Step := (List.replicate n default).set f ⟨f, -1, 0, false, true, 0⟩
def reachFin (l : List Arc) (on : List Int) (n f : Nat) : List Step := reachIter l on (n + 1) 0 (reachInit n f)
def unk (sts : List Step) : Nat := sts.countP fun s => !s.known
theorem visR_length (d : Int) (s : RSt) (a b : Int) (arc : Nat) (room cost : Int) (fwd : Bool) : (visR d s a b arc room cost fwd).1.length = s.1.length := by
 unfold visR; split <;> simp
def RInv (sts0 : List Step) (s : RSt) : Prop := s.1.length = sts0.length ∧ (s.2 = false → s.1 = sts0) ∧ (s.2 = true → unk s.1 < unk sts0)
theorem unk_set {sts : List Step} {b : Nat} {x : Step} (hb : b < sts.length) (h : sts[b].known = false) (hx : x.known = true) : unk (sts.set b x) < unk sts := by
 unfold unk
 have h1 : (sts.countP fun s => !s.known) = ((sts.take b).countP fun s => !s.known) + ((sts.drop b).countP fun s => !s.known) := by
  rw [← List.countP_append, List.take_append_drop]
 have h2 : ((sts.set b x).countP fun s => !s.known) = ((sts.take b).countP fun s => !s.known) + ((sts.drop (b+1)).countP fun s => !s.known) := by
  rw [List.set_eq_take_append_cons_drop, if_pos hb, List.countP_append, List.countP_cons]; simp [hx]
 rw [h1, h2, List.drop_eq_getElem_cons hb, List.countP_cons]
 simp [h]
theorem visR_inv {sts0 : List Step} (d : Int) (s : RSt) (a b : Int) (arc : Nat) (room cost : Int) (fwd : Bool) (h : RInv sts0 s) : RInv sts0 (visR d s a b arc room cost fwd) := by
 refine ⟨by rw [visR_length]; exact h.1, ?_, ?_⟩
 ·unfold visR; split
  ·intro hc; cases hc
  ·exact h.2.1
 ·unfold visR; split
  ·rename_i hc
   intro _
   simp only
   unfold visC at hc
   simp only [Bool.and_eq_true, Bool.not_eq_true', decide_eq_true_eq] at hc
   have hb : b.toNat < s.1.length := hc.2
   have hk : s.1[b.toNat].known = false := by have := hc.1.2; simpa [hb] using this
   have h1 := unk_set hb hk (x := ⟨a, arc, room, fwd, true, d + 1⟩) rfl
   cases hs : s.2 with
   | false => rw [h.2.1 hs] at h1; rw [h.2.1 hs]; exact h1
   | true => have := h.2.2 hs; omega
  ·exact h.2.2
theorem eachM_inv {σ : Type} {vis : VisF σ} {l : List Arc} {on : List Int} {Inv : σ → Prop} (h : ∀ s a b arc room cost fwd, Inv s → Inv (vis s a b arc room cost fwd)) {s : σ} (hs : Inv s) : ∀ k, Inv (eachM vis l on k s)
 | 0 => hs
 | k + 1 => by
  have ih := eachM_inv (l := l) (on := on) h hs k
  rw [eachM]
  have h1 : Inv (eachF vis k (l.getD k default) (on.getD k 0) (eachM vis l on k s)) := by unfold eachF; split; exact h _ _ _ _ _ _ _ ih; exact ih
  unfold eachB; split
  ·exact h _ _ _ _ _ _ _ h1
  ·exact h1
theorem reachStep_inv (l : List Arc) (on : List Int) (d : Int) (sts : List Step) : RInv sts (reachStep l on d sts) :=
 eachM_inv (fun s a b arc room cost fwd h => visR_inv d s a b arc room cost fwd h) ⟨rfl, fun _ => rfl, fun h => by cases h⟩ _
set_option maxHeartbeats 400000 in
theorem flowReach (n f : Nat) (A B : Option Addr) (l : List Arc) (on : List Int) (cap cap2 : Nat) (w0 : World) (hf : f < n) (hn : n ≤ 64)
  (hz : ArcsAt w0 A l) (ho : IntsAt w0 B on) (hlen : on.length = l.length) (hl : l.length ≤ 4096)
  (hcap : ∀ i (h : i < l.length), -1000000 ≤ l[i].cap ∧ l[i].cap ≤ 1000000 ∧ -1000000 ≤ l[i].cost ∧ l[i].cost ≤ 1000000) (hon : ∀ i (h : i < on.length), -1000000000 ≤ on[i] ∧ on[i] ≤ 1000000000)
  (hnode : ∀ i (h : i < l.length), (0 ≤ l[i].f ∧ l[i].f < n) ∧ (0 ≤ l[i].t ∧ l[i].t < n)) :
  Calls Tryz.prog 90 #[.agg #[I n, .slice A l.length cap, .slice B on.length cap2], I f] w0
   fun e w' => ∃ ga, e = .returned (.slice (some ⟨ga, 0, none⟩) n n) ∧ SH w0 [] w' [⟨ga, 132, (reachFin l on n f).flatMap stepCells⟩] := by
 have H := SH.refl w0
 refine Calls.ofWP Tryz.func90 rfl Tryz.results90 Tryz.ntmps90 rfl <| Y.qr <| Y.bx (cA rfl) H ?_
 clear H; intro g2 w H
 refine Y.v (Ev.asS rfl) <| Y.z <| Y.qr <| Y.fa rfl rfl <| Y.fa rfl rfl <| Y.j H 0 rfl rfl rfl <| Y.mk H (sl_run rfl) ?_
 clear H; intro g11 w H
 refine Y.al H rfl rfl ?_
 clear H; intro g5 w H
 refine Y.ss 0 H rfl (cS rfl) rfl ?_
 clear H; intro w H
 refine Y.z <| Y.qr <| Y.j H 0 rfl rfl rfl <| Y.a rfl <| Y.a rfl <| Y.v (Ev.build (bld_132_0_1_4 rfl rfl rfl)) <| Y.v (Y.X rfl rfl rfl rfl rfl) <| OPS.store 1 _ rfl rfl rfl (size_run rfl) rfl (cA rfl) rfl rfl H rfl (by simp only [mkL_length, List.length_cons, List.length_nil]; omega) ?_
 clear H; intro w H
 have hp := putL_rows stepCells_len (List.replicate n default) f ⟨f, -1, 0, false, true, 0⟩ (by simpa using hf)
 rw [← mkL_rows] at hp
 rw [Nat.zero_add] at H
 replace H : SH w0 [] w [⟨g5, 128, [.slice (some ⟨g11, 0, none⟩) n n]⟩, ⟨g11, 132, putL (mkL n (stepCells default)) (f * 6) (stepCells ⟨f, -1, 0, false, true, 0⟩)⟩, ⟨g2, 127, [I n, .slice A l.length cap, .slice B on.length cap2]⟩] := H
 rw [hp] at H
 refine Y.z <| Y.q <| Y.qr <| Y.al H rfl rfl ?_
 clear H; intro g6 w H
 refine Y.al H rfl rfl ?_
 clear H; intro g7 w H
 refine Y.ss 1 H rfl (cI rfl) rfl ?_
 clear H; intro w H
 refine Y.ss 0 H rfl (cB rfl) rfl ?_
 clear H; intro w H
 refine Y.z <| WP.block <| WP.loop [6, 7, 17, 18, 19, 20, 21, 22, 23, 24] (fun k e w' => ∃ (gg gd : Nat) (d : Nat) (g : Bool) (sts : List Step), e 6 = .pointer (some ⟨gd, 0, none⟩) ∧ e 7 = .pointer (some ⟨gg, 0, none⟩) ∧ SH w0 [] w' [⟨g2, 127, [I n, .slice A l.length cap, .slice B on.length cap2]⟩, ⟨g5, 128, [.slice (some ⟨g11, 0, none⟩) n n]⟩, ⟨gd, 3, [I d]⟩, ⟨gg, 4, [Bo g]⟩, ⟨g11, 132, sts.flatMap stepCells⟩] ∧ sts.length = n ∧ d + k ≤ n + 1 ∧ (g = true → unk sts < k ∧ reachFin l on n f = reachIter l on k d sts) ∧ (g = false → reachFin l on n f = sts)) (n + 1) (⟨g7, g6, 0, true, reachInit n f, rfl, rfl, H.reidx [4, 2, 1, 0, 3] (by decide) rfl, by simp [reachInit], by omega, fun _ => ⟨by have h1 : unk (reachInit n f) ≤ (reachInit n f).length := List.countP_le_length; simp [reachInit] at h1 ⊢; omega, rfl⟩, fun h => by cases h⟩) ?_
 clear H
 rintro k u w ⟨gg, gd, d, g, sts, h6, h7, H, hst, hd, hg1, hg2⟩
 refine WP.know (t := 6) h6 (WP.know (t := 7) h7 ?_)
 refine Y.q <| Y.qr <| Y.j H 3 rfl rfl rfl <| Y.z ?_
 refine WP.cond rfl (fun hc4 => ?_) (fun hc4 => ?_)
 ·subst hc4
  obtain ⟨hk, hfin⟩ := hg1 rfl
  clear hg1 hg2
  refine Y.k <| Y.q <| WP.block <| Y.qr <| Y.ss 3 H rfl (cB rfl) rfl ?_
  clear H; intro w H
  refine Y.z <| Y.r <| Y.v (Y.o H 0 rfl rfl) <| Y.v (Ev.makeFunc) ?_
  have hfr : ∀ g ∈ [g5, gd, gg, g11], w0.heap.size ≤ g := fun g hg => H.fresh g (List.mem_cons_of_mem _ hg)
  have hA : l ≠ [] → Off A [g5, gd, gg, g11] := hz.off (fun _ => by simp [arcCells]) hfr
  have hB : on ≠ [] → Off B [g5, gd, gg, g11] := ho.off hfr
  have hvF : ∀ i (h : i < l.length) (h2 : i < on.length) (s : RSt) w, s.1.length = n → on[i] < l[i].cap → SH w [g5, gd, gg, g11] w (reachLv g5 gd gg g11 n d s) → Calls Tryz.prog 102 ([I l[i].f, I l[i].t, I i, I (l[i].cap - on[i]), I l[i].cost, .bool true] ++ [Value.pointer (some ⟨g5, 0, none⟩), Value.pointer (some ⟨gd, 0, none⟩), Value.pointer (some ⟨gg, 0, none⟩)]).toArray w fun e w' => e = .returned (.tuple #[]) ∧ SH w [g5, gd, gg, g11] w' (reachLv g5 gd gg g11 n d (visR d s l[i].f l[i].t i (l[i].cap - on[i]) l[i].cost true)) := by
   intro i h h2 s w hs _ Hw
   obtain ⟨⟨p1, p2⟩, p3, p4⟩ := hnode i h
   obtain ⟨ai, hai⟩ := Int.eq_ofNat_of_zero_le p1
   obtain ⟨bi, hbi⟩ := Int.eq_ofNat_of_zero_le p3
   rw [hai, hbi]
   exact reachVisit g5 gd gg g11 n ai bi d _ _ i true s w hs (by omega) (by omega) (by omega) (by omega) Hw
  have hvB : ∀ i (h : i < l.length) (h2 : i < on.length) (s : RSt) w, s.1.length = n → 0 < on[i] → SH w [g5, gd, gg, g11] w (reachLv g5 gd gg g11 n d s) → Calls Tryz.prog 102 ([I l[i].t, I l[i].f, I i, I on[i], I (-l[i].cost), .bool false] ++ [Value.pointer (some ⟨g5, 0, none⟩), Value.pointer (some ⟨gd, 0, none⟩), Value.pointer (some ⟨gg, 0, none⟩)]).toArray w fun e w' => e = .returned (.tuple #[]) ∧ SH w [g5, gd, gg, g11] w' (reachLv g5 gd gg g11 n d (visR d s l[i].t l[i].f i on[i] (-l[i].cost) false)) := by
   intro i h h2 s w hs _ Hw
   obtain ⟨⟨p1, p2⟩, p3, p4⟩ := hnode i h
   obtain ⟨ai, hai⟩ := Int.eq_ofNat_of_zero_le p1
   obtain ⟨bi, hbi⟩ := Int.eq_ofNat_of_zero_le p3
   rw [hai, hbi]
   exact reachVisit g5 gd gg g11 n bi ai d _ _ i false s w hs (by omega) (by omega) (by omega) (by omega) Hw
  refine OPS.call (d := some 22) rfl rfl rfl (EvC.func (fun_run rfl)) (flowEach (visR d) (reachLv g5 gd gg g11 n d) [g5, gd, gg, g11] (fun _ => rfl) (fun s => s.1.length = n) 102 [.pointer (some ⟨g5, 0, none⟩), .pointer (some ⟨gd, 0, none⟩), .pointer (some ⟨gg, 0, none⟩)] n A B l on cap cap2 (sts, false) _ rfl (hz.sh H) hA (ho.sh H) hB hlen hl hcap hon hvF (fun i _ _ s hs _ => by rw [visR_length]; exact hs) hvB (fun i _ _ s hs _ => by rw [visR_length]; exact hs) hst (H.restart (List.sublist_cons_self _ _))) ?_
  rintro _ w ⟨rfl, Hc⟩
  refine ⟨_, rfl, ?_⟩
  replace H := SH.call (L1 := [⟨g2, 127, [I n, .slice A l.length cap, .slice B on.length cap2]⟩]) (Lv := reachLv g5 gd gg g11 n d (sts, false)) H Hc
  clear Hc
  have hinv := reachStep_inv l on d sts
  have hstep : eachM (visR d) l on l.length (sts, false) = reachStep l on d sts := rfl
  rw [hstep] at H
  generalize hr : reachStep l on d sts = r at H hinv
  unfold reachLv at H
  refine Y.z <| Y.q <| Y.qr <| Y.j H 2 rfl rfl rfl <| Y.j H 3 rfl rfl rfl <| Y.z <| Y.r <| Y.al H rfl rfl ?_
  clear H; intro g6 w H
  refine Y.ss 0 H rfl (cI rfl) rfl ?_
  clear H; intro w H
  refine Y.al H rfl rfl ?_
  clear H; intro g7 w H
  refine Y.ss 0 H rfl (cB rfl) rfl ?_
  clear H; intro w H
  refine Y.z ?_
  replace H := H.reidx (L' := [⟨g2, 127, [I n, .slice A l.length cap, .slice B on.length cap2]⟩, ⟨g5, 128, [.slice (some ⟨g11, 0, none⟩) n n]⟩, ⟨g6, 3, [I d]⟩, ⟨g7, 4, [Bo r.2]⟩, ⟨g11, 132, r.1.flatMap stepCells⟩]) [2, 3, 1, 0, 6] (by decide) rfl
  refine Y.r <| Y.j H 2 rfl rfl rfl <| Y.v (Y.p rfl rfl) <| Y.ss 2 H rfl (cI rfl) rfl ?_
  clear H; intro w H
  refine Y.z ?_
  have hk1 : ∃ k', k = k' + 1 := ⟨k - 1, by omega⟩
  obtain ⟨k', rfl⟩ := hk1
  refine ⟨Y.ag, k', by omega, g7, g6, d + 1, r.2, r.1, rfl, rfl, H, by rw [hinv.1, hst], by omega, fun hr2 => ⟨by have := hinv.2.2 hr2; omega, ?_⟩, fun hr2 => ?_⟩
  ·rw [hfin, reachIter, hr, if_pos hr2]; rfl
  ·rw [hfin, reachIter, hr, if_neg (by simp [hr2])]
 refine WP.exit <| XB.hit <| Y.qr <| Y.j H 1 rfl rfl rfl <| Y.v (Ev.asS rfl) <| Y.z ?_
 refine WP.ret ⟨_, rfl, ?_⟩
 subst hc4
 rw [hg2 rfl]
 exact ⟨g11, rfl, H.reidx [4] (by decide) rfl⟩
end Go.Proofs.YthobaaefdehoiaaGreat.Flo

/-
 Walk: push.
-/
set_option linter.all false
namespace Go.Proofs.YthobaaefdehoiaaGreat.Flo
open Go Go.W Go.RowKit
def Chain (sts : List Step) (f m : Nat) : List Nat → Nat → Prop
 | [], k => k = f
 | x :: xs, k => k = x ∧ k ≠ f ∧ k < sts.length ∧ ∃ p ai : Nat, (sts.getD k default).from_ = p ∧ (sts.getD k default).arc = ai ∧ ai < m ∧ Chain sts f m xs p
def minI (a b : Int) : Int := if b < a then b else a
def pushMin (sts : List Step) (ks : List Nat) (most : Int) : Int := ks.foldl (fun m k => minI m (sts.getD k default).room) most
def push1 (sts : List Step) (M : Int) (on : List Int) (k : Nat) : List Int :=
 let s := sts.getD k default
 on.set s.arc.toNat (if s.fwd = true then on.getD s.arc.toNat 0 + M else on.getD s.arc.toNat 0 - M)
def pushOn (sts : List Step) (ks : List Nat) (M : Int) (on : List Int) : List Int := ks.foldl (push1 sts M) on
theorem push1_length (sts : List Step) (M : Int) (on : List Int) (k : Nat) : (push1 sts M on k).length = on.length := by simp [push1]
theorem pushOn_length (sts : List Step) (M : Int) : ∀ (ks : List Nat) (on : List Int), (pushOn sts ks M on).length = on.length
 | [], _ => rfl
 | k :: ks, on => by unfold pushOn; rw [List.foldl_cons]; exact (pushOn_length sts M ks _).trans (push1_length sts M on k)
set_option maxHeartbeats 400000 in
theorem flowPush (gon : Nat) (A As : Option Addr) (la cap cap2 cap3 : Nat) (n f t most : Int) (fn tn : Nat) (hf : f = fn) (ht : t = tn) (sts : List Step) (on : List Int) (ks : List Nat) (w0 : World)
  (hs : RowsAt 6 stepCells w0 As sts) (hoff : sts ≠ [] → Off As [gon]) (hch : Chain sts fn on.length ks tn) (hks : ks.length ≤ 1000)
  (hM : -1000000 ≤ pushMin sts ks most ∧ pushMin sts ks most ≤ 1000000) (hon : ∀ i (h : i < on.length), -1000000000 ≤ on[i] ∧ on[i] ≤ 1000000000)
  (H0 : SH w0 [gon] w0 [⟨gon, 3, on.map I⟩]) :
  Calls Tryz.prog 55 #[.agg #[I n, .slice A la cap, .slice (some ⟨gon, 0, none⟩) on.length cap2], .slice As sts.length cap3, I f, I t, I most] w0
   fun e w' => e = .returned (I (pushMin sts ks most)) ∧ SH w0 [gon] w' [⟨gon, 3, (pushOn sts ks (pushMin sts ks most) on).map I⟩] := by
 subst hf ht
 have H := H0
 refine Calls.ofWP Tryz.func55 rfl Tryz.results55 Tryz.ntmps55 rfl <| Y.qr <| Y.bx (cA rfl) H ?_
 clear H; intro g5 w H
 refine Y.b rfl <| Y.z <| Y.q <| Y.qr <| Y.a rfl <| Y.b rfl <| Y.z <| WP.block <| WP.loop [4, 11, 14, 15, 16, 17, 18, 19, 20, 21, 22, 23, 24, 25, 26, 27, 28] (fun g e w' => w' = w ∧ ∃ (k : Nat) (m : Int) (xs : List Nat), xs.length = g ∧ e 11 = I k ∧ e 4 = I m ∧ Chain sts fn on.length xs k ∧ pushMin sts xs m = pushMin sts ks most) (ks.length) (⟨rfl, tn, most, ks, rfl, rfl, rfl, hch, rfl⟩) ?_
 rintro g u w' ⟨rfl, k, m, xs, hg, h11, h4, hc, hm⟩
 refine WP.know (t := 11) h11 (WP.know (t := 4) h4 ?_)
 refine Y.q <| Y.qr <| Y.a rfl <| Y.a rfl <| Y.v (Ev.neq rfl rfl) <| Y.z ?_
 refine WP.cond rfl (fun hc2 => ?_) (fun hc2 => ?_)
 ·have hkf : k ≠ fn := by intro he; simp [he] at hc2
  obtain ⟨x, xs, rfl⟩ : ∃ x xs', xs = x :: xs' := by
   cases xs with
   | nil => exact absurd hc hkf
   | cons x xs => exact ⟨x, xs, rfl⟩
  obtain ⟨rfl, _, hkl, p, ai, hp, hai, hal, hc⟩ := hc
  have hgd : sts.getD k default = sts[k] := by simp [hkl]
  rw [hgd] at hp hai
  obtain ⟨b, o, rfl, hrow⟩ := hs k hkl
  have hb : b ∉ [gon] := hoff (List.ne_nil_of_length_pos (by omega)) b o rfl
  obtain ⟨a0, a1, a2, a3, a4, a5, _⟩ := cellsAt_shS H hb hrow
  refine Y.k <| Y.q <| WP.block <| Y.r <| Y.a rfl <| Y.v (Ev.mvS rfl) <| Y.a rfl <| Y.v (Y.X rfl rfl rfl rfl rfl) <| Y.fa rfl rfl <| Y.v (Y.c (by assumption) rfl) ?_
  refine Y.v (Ev.min rfl rfl) <| Y.b rfl <| Y.z <| Y.r <| Y.v (Ev.mvS rfl) <| Y.a rfl <| Y.v (Y.X rfl rfl rfl rfl rfl) <| Y.fa rfl rfl <| Y.v (Y.c (by assumption) rfl) ?_
  refine Y.b rfl <| Y.z ?_
  have hm2 : pushMin sts xs (minI m sts[k].room) = pushMin sts ks most := by rw [← hm]; simp only [pushMin, List.foldl_cons, hgd]
  simp only [List.length_cons] at hg
  exact ⟨Y.ag, xs.length, by omega, rfl, p, minI m sts[k].room, xs, rfl, by rw [← hp]; rfl, rfl, hc, hm2⟩
 have hkf : k = fn := by simp at hc2; omega
 have hxs : xs = [] := by
  cases xs with
  | nil => rfl
  | cons x xs => exact absurd hkf hc.2.1
 subst hxs
 have hm' : m = pushMin sts ks most := hm
 subst hm'
 generalize hMM : pushMin sts ks most = M at *
 refine WP.exit <| XB.hit <| Y.q <| Y.qr <| Y.a rfl <| Y.b rfl <| Y.z <| WP.block <| WP.loop [12, 30, 31, 32, 33, 34, 35, 36, 37, 38, 39, 40, 41, 42, 43, 44, 45, 46, 47, 48, 49, 50, 51, 52, 53, 54, 55, 56, 57, 58, 59, 60, 61, 62, 63, 64, 65, 66] (fun g e w' => ∃ (k : Nat) (on' : List Int) (xs : List Nat), xs.length = g ∧ g ≤ ks.length ∧ e 12 = I k ∧ SH w0 [gon] w' [⟨g5, 127, [I n, .slice A la cap, .slice (some ⟨gon, 0, none⟩) on.length cap2]⟩, ⟨gon, 3, on'.map I⟩] ∧ Chain sts fn on.length xs k ∧ on'.length = on.length ∧ pushOn sts xs M on' = pushOn sts ks M on ∧ ∀ i (h : i < on'.length), -1000000000 - 1000000 * ((ks.length : Int) - g) ≤ on'[i] ∧ on'[i] ≤ 1000000000 + 1000000 * ((ks.length : Int) - g)) (ks.length) (⟨tn, on, ks, rfl, Nat.le_refl _, rfl, H, hch, rfl, rfl, fun i h => by have := hon i h; omega⟩) ?_
 clear H
 rintro g u2 w ⟨k, on', xs, hg, hgle, h12, H, hc, hol, hpo, hob⟩
 refine WP.know (t := 12) h12 <| Y.q <| Y.qr <| Y.a rfl <| Y.a rfl <| Y.v (Ev.neq rfl rfl) <| Y.z ?_
 refine WP.cond rfl (fun hc6 => ?_) (fun hc6 => ?_)
 ·have hkf : k ≠ fn := by intro he; simp [he] at hc6
  obtain ⟨x, xs, rfl⟩ : ∃ x xs', xs = x :: xs' := by
   cases xs with
   | nil => exact absurd hc hkf
   | cons x xs => exact ⟨x, xs, rfl⟩
  obtain ⟨rfl, _, hkl, p, ai, hp, hai, hal, hc⟩ := hc
  have hgd : sts.getD k default = sts[k] := by simp [hkl]
  rw [hgd] at hp hai
  obtain ⟨b, o, rfl, hrow⟩ := hs k hkl
  have hb : b ∉ [gon] := hoff (List.ne_nil_of_length_pos (by omega)) b o rfl
  obtain ⟨a0, a1, a2, a3, a4, a5, _⟩ := hrow
  rw [hp] at a0
  rw [hai] at a1
  have hal' : ai < on'.length := by omega
  have hob1 := hob ai hal'
  have hgd2 : on'.getD ai 0 = on'[ai] := by simp [hal']
  simp only [List.length_cons] at hg
  refine Y.k <| Y.q <| WP.block <| Y.qr <| Y.v (Ev.mvS rfl) <| Y.a rfl <| Y.v (Y.X rfl rfl rfl rfl rfl) <| Y.fa rfl rfl <| Y.v (Y.c (H.ldS (by assumption) (by assumption)) rfl) ?_
  refine Y.z ?_
  refine WP.cond rfl (fun hc8 => ?_) (fun hc8 => ?_)
  ·refine WP.rtail 12 mixed (by kernel_rfl) H ?_
   clear H; intro w hbw9 H
   obtain ⟨_, _, e1, hx⟩ := onesOwn H 1 rfl ai hal'
   cases e1
   refine Y.fa rfl rfl <| Y.j H 0 rfl rfl rfl <| Y.v (Ev.mvS rfl) <| Y.a rfl <| Y.v (Y.X rfl rfl rfl rfl rfl) <| Y.fa rfl rfl <| Y.v (Y.c (H.ldS (by assumption) (by assumption)) rfl) ?_
   refine Y.v (Y.x rfl rfl rfl rfl) <| Y.v (Y.c (by assumption) rfl) ?_
   refine Y.a rfl <| Y.v (Y.p rfl rfl) <| Y.v (Y.x rfl rfl rfl rfl) <| OPS.nil_s <| OPS.store 1 _ rfl rfl rfl (size_run rfl) rfl (cI rfl) rfl rfl H rfl (by simp; omega) ?_
   clear H; intro w H
   have hpl := putL_ones (enc := I) on' ai (on'[ai] + M)
   rw [Nat.zero_add] at H
   replace H : SH w0 [gon] w [⟨g5, 127, [I n, .slice A la cap, .slice (some ⟨gon, 0, none⟩) on.length cap2]⟩, ⟨gon, 3, putL (on'.map I) ai [I (on'[ai] + M)]⟩] := H
   rw [hpl] at H
   have hp1 : push1 sts M on' k = on'.set ai (on'[ai] + M) := by simp only [push1, hgd, hai, Int.toNat_natCast, hgd2, hc8, if_true]
   refine Y.z <| Y.r <| Y.v (Ev.mvS rfl) <| Y.a rfl <| Y.v (Y.X rfl rfl rfl rfl rfl) <| Y.fa rfl rfl <| Y.v (Y.c (H.ldS (by assumption) (by assumption)) rfl) ?_
   refine Y.b rfl <| Y.z ?_
   rw [← hp1] at H
   refine ⟨Y.ag, xs.length, by omega, p, push1 sts M on' k, xs, rfl, by omega, rfl, H, hc, by rw [push1_length]; exact hol, by rw [← hpo]; simp only [pushOn, List.foldl_cons], fun i h => ?_⟩
   have hi : i < on'.length := by rw [push1_length] at h; exact h
   have hh := hob i hi
   simp only [hp1, List.getElem_set]
   split
   ·rename_i he; subst he; omega
   ·omega
  refine WP.rtail 12 mixed (by kernel_rfl) H ?_
  clear H; intro w hbw10 H
  obtain ⟨_, _, e1, hx⟩ := onesOwn H 1 rfl ai hal'
  cases e1
  refine Y.fa rfl rfl <| Y.j H 0 rfl rfl rfl <| Y.v (Ev.mvS rfl) <| Y.a rfl <| Y.v (Y.X rfl rfl rfl rfl rfl) <| Y.fa rfl rfl <| Y.v (Y.c (H.ldS (by assumption) (by assumption)) rfl) ?_
  refine Y.v (Y.x rfl rfl rfl rfl) <| Y.v (Y.c (by assumption) rfl) ?_
  refine Y.a rfl <| Y.v (Y.s rfl rfl) <| Y.v (Y.x rfl rfl rfl rfl) <| OPS.nil_s <| OPS.store 1 _ rfl rfl rfl (size_run rfl) rfl (cI rfl) rfl rfl H rfl (by simp; omega) ?_
  clear H; intro w H
  have hpl := putL_ones (enc := I) on' ai (on'[ai] - M)
  rw [Nat.zero_add] at H
  replace H : SH w0 [gon] w [⟨g5, 127, [I n, .slice A la cap, .slice (some ⟨gon, 0, none⟩) on.length cap2]⟩, ⟨gon, 3, putL (on'.map I) ai [I (on'[ai] - M)]⟩] := H
  rw [hpl] at H
  have hp1 : push1 sts M on' k = on'.set ai (on'[ai] - M) := by simp only [push1, hgd, hai, Int.toNat_natCast, hgd2, hc8]; rfl
  refine Y.z <| Y.r <| Y.v (Ev.mvS rfl) <| Y.a rfl <| Y.v (Y.X rfl rfl rfl rfl rfl) <| Y.fa rfl rfl <| Y.v (Y.c (H.ldS (by assumption) (by assumption)) rfl) ?_
  refine Y.b rfl <| Y.z ?_
  rw [← hp1] at H
  refine ⟨Y.ag, xs.length, by omega, p, push1 sts M on' k, xs, rfl, by omega, rfl, H, hc, by rw [push1_length]; exact hol, by rw [← hpo]; simp only [pushOn, List.foldl_cons], fun i h => ?_⟩
  have hi : i < on'.length := by rw [push1_length] at h; exact h
  have hh := hob i hi
  simp only [hp1, List.getElem_set]
  split
  ·rename_i he; subst he; omega
  ·omega
 refine WP.exit <| XB.hit <| Y.qr <| Y.a rfl <| Y.b rfl <| Y.z ?_
 refine WP.ret ⟨_, rfl, ?_⟩
 have hkf : k = fn := by simp at hc6; omega
 have hxs : xs = [] := by
  cases xs with
  | nil => rfl
  | cons x xs => exact absurd hkf hc.2.1
 subst hxs
 rw [← hpo]
 exact ⟨rfl, H.drop (List.sublist_cons_self _ _)⟩
end Go.Proofs.YthobaaefdehoiaaGreat.Flo

/-
 Plain: flows on a list of arcs: what flows out of a set of nodes; cuts; a push along a chain.
-/
set_option linter.all false
namespace Go.Proofs.YthobaaefdehoiaaGreat.Flo
open Go Go.W
def netOut (p : Int → Int) : List Arc → List Int → Int
 | a :: l, x :: on => x * (p a.f - p a.t) + netOut p l on
 | _, _ => 0
def ind (v : Int) : Int → Int := fun u => if u = v then 1 else 0
def NodesOk (n : Nat) (l : List Arc) : Prop := ∀ a ∈ l, (0 ≤ a.f ∧ a.f < n) ∧ (0 ≤ a.t ∧ a.t < n)
structure VFlow (l : List Arc) (on : List Int) : Prop where
 len : on.length = l.length
 bd : ∀ i (h : i < l.length) (h2 : i < on.length), 0 ≤ on[i] ∧ on[i] ≤ l[i].cap
structure IsFlow (n : Nat) (l : List Arc) (s t : Int) (on : List Int) (amt : Int) : Prop where
 v : VFlow l on
 cons : ∀ u : Int, 0 ≤ u → u < n → u ≠ s → u ≠ t → netOut (ind u) l on = 0
 amt : netOut (ind s) l on = amt
def cutCap (S : Int → Bool) : List Arc → Int
 | [] => 0
 | a :: l => (if (S a.f && !S a.t) = true then a.cap else 0) + cutCap S l
def sumTo (f : Int → Int) : Nat → Int
 | 0 => 0
 | n + 1 => sumTo f n + f n
theorem sumTo_zero (n : Nat) : sumTo (fun _ => 0) n = 0 := by
 induction n with
 | zero => rfl
 | succ n ih => simp [sumTo, ih]
theorem sumTo_add (f g : Int → Int) (n : Nat) : sumTo (fun u => f u + g u) n = sumTo f n + sumTo g n := by
 induction n with
 | zero => rfl
 | succ n ih => simp only [sumTo, ih]; omega
theorem sumTo_congr {f g : Int → Int} {n : Nat} (h : ∀ u : Int, 0 ≤ u → u < n → f u = g u) : sumTo f n = sumTo g n := by
 induction n with
 | zero => rfl
 | succ n ih => simp only [sumTo]; rw [ih fun u h1 h2 => h u h1 (by omega), h n (by omega) (by omega)]
theorem sumTo_pick (q : Int → Int) (v : Int) (c : Int) : ∀ n : Nat, 0 ≤ v → v < n → sumTo (fun u => q u * (c * ind u v)) n = q v * c
 | 0, h0, h => by omega
 | n + 1, h0, h => by
  simp only [sumTo]
  by_cases hv : v = n
  ·subst hv
   have : sumTo (fun u => q u * (c * ind u (n : Int))) n = sumTo (fun _ => 0) n := sumTo_congr fun u h1 h2 => by
    rw [show ind u (n : Int) = 0 from if_neg (by omega)]; simp
   rw [this, sumTo_zero]; simp [ind]
  ·rw [sumTo_pick q v c n h0 (by omega)]; simp [ind, hv]
theorem netOut_sum (n : Nat) (p : Int → Int) : ∀ (l : List Arc) (on : List Int), NodesOk n l → netOut p l on = sumTo (fun u => p u * netOut (ind u) l on) n
 | [], on, _ => by simp [netOut, sumTo_zero]
 | a :: l, [], _ => by simp [netOut, sumTo_zero]
 | a :: l, x :: on, h => by
  have ha := h a (List.mem_cons_self ..)
  have ih := netOut_sum n p l on fun b hb => h b (List.mem_cons_of_mem _ hb)
  have e1 : sumTo (fun u => p u * netOut (ind u) (a :: l) (x :: on)) n = sumTo (fun u => p u * (x * ind u a.f)) n + (sumTo (fun u => p u * (-x * ind u a.t)) n + sumTo (fun u => p u * netOut (ind u) l on) n) := by
   rw [← sumTo_add, ← sumTo_add]
   refine sumTo_congr fun u _ _ => ?_
   simp only [netOut, Int.mul_add, Int.mul_sub, Int.neg_mul, Int.mul_neg]
   omega
  rw [e1, sumTo_pick p a.f x n ha.1.1 ha.1.2, sumTo_pick p a.t (-x) n ha.2.1 ha.2.2, ← ih]
  simp only [netOut, Int.mul_sub, Int.mul_neg, Int.mul_comm]
  omega
theorem sumTo_single (f : Int → Int) (v : Int) : ∀ n : Nat, 0 ≤ v → v < n → (∀ u : Int, 0 ≤ u → u < n → u ≠ v → f u = 0) → sumTo f n = f v
 | 0, h0, h, _ => by omega
 | n + 1, h0, h, hz => by
  simp only [sumTo]
  by_cases hv : v = n
  ·subst hv
   rw [show sumTo f n = sumTo (fun _ => 0) n from sumTo_congr fun u h1 h2 => hz u h1 (by omega) (by omega), sumTo_zero]; omega
  ·rw [sumTo_single f v n h0 (by omega) fun u h1 h2 h3 => hz u h1 (by omega) h3, hz n (by omega) (by omega) (fun h => hv h.symm)]; omega
def indB (S : Int → Bool) : Int → Int := fun u => if S u = true then 1 else 0
theorem IsFlow.set {n : Nat} {l : List Arc} {s t : Int} {on : List Int} {amt : Int} (hf : IsFlow n l s t on amt) (hn : NodesOk n l) (hs : 0 ≤ s ∧ s < n) {S : Int → Bool} (h1 : S s = true) (h2 : S t = false) : netOut (indB S) l on = amt := by
 rw [netOut_sum n _ l on hn, sumTo_single _ s n hs.1 hs.2, hf.amt]
 ·simp [indB, h1]
 ·intro u hu0 hu1 hus
  by_cases hut : u = t
  ·subst hut; simp [indB, h2]
  ·rw [hf.cons u hu0 hu1 hus hut]; simp
theorem netOut_le_cut (S : Int → Bool) : ∀ (l : List Arc) (on : List Int), VFlow l on → netOut (indB S) l on ≤ cutCap S l
 | [], [], _ => by simp [netOut, cutCap]
 | a :: l, x :: on, h => by
  have h0 := h.bd 0 (by simp) (by simp)
  simp only [List.getElem_cons_zero] at h0
  have ih := netOut_le_cut S l on ⟨by simpa using h.len, fun i hi hi2 => h.bd (i + 1) (Nat.succ_lt_succ hi) (Nat.succ_lt_succ hi2)⟩
  simp only [netOut, cutCap, indB]
  cases S a.f <;> cases S a.t <;> simp <;> omega
 | [], _ :: _, h => by have := h.len; simp at this
 | _ :: _, [], h => by have := h.len; simp at this
theorem weak_dual {n : Nat} {l : List Arc} {s t : Int} {on : List Int} {amt : Int} (hf : IsFlow n l s t on amt) (hn : NodesOk n l) (hs : 0 ≤ s ∧ s < n) {S : Int → Bool} (h1 : S s = true) (h2 : S t = false) : amt ≤ cutCap S l := by
 rw [← hf.set hn hs h1 h2]; exact netOut_le_cut S l on hf.v
theorem netOut_eq_cut (S : Int → Bool) : ∀ (l : List Arc) (on : List Int), on.length = l.length → (∀ i (h : i < l.length) (h2 : i < on.length), (S l[i].f = true → S l[i].t = false → on[i] = l[i].cap) ∧ (S l[i].f = false → S l[i].t = true → on[i] = 0)) → netOut (indB S) l on = cutCap S l
 | [], [], _, _ => by simp [netOut, cutCap]
 | a :: l, x :: on, hl, h => by
  have h0 := h 0 (by simp) (by simp)
  simp only [List.getElem_cons_zero] at h0
  have ih := netOut_eq_cut S l on (by simpa using hl) fun i hi hi2 => h (i + 1) (Nat.succ_lt_succ hi) (Nat.succ_lt_succ hi2)
  simp only [netOut, cutCap, indB]
  cases hf : S a.f <;> cases ht : S a.t <;> simp [hf, ht] at h0 ⊢ <;> omega
 | [], _ :: _, h, _ => by simp at h
 | _ :: _, [], h, _ => by simp at h
theorem netOut_set (p : Int → Int) : ∀ (l : List Arc) (on : List Int) (i : Nat) (x : Int) (h : i < l.length) (h2 : i < on.length), netOut p l (on.set i x) = netOut p l on + (x - on[i]) * (p l[i].f - p l[i].t)
 | [], _, _, _, h, _ => by simp at h
 | _ :: _, [], _, _, _, h => by simp at h
 | a :: l, y :: on, 0, x, _, _ => by simp only [List.set_cons_zero, netOut, List.getElem_cons_zero, Int.sub_mul]; omega
 | a :: l, y :: on, i + 1, x, h, h2 => by
  simp only [List.set_cons_succ, netOut, List.getElem_cons_succ]
  rw [netOut_set p l on i x (by simpa using h) (by simpa using h2)]; omega
theorem cutCap_nonneg (S : Int → Bool) : ∀ l : List Arc, (∀ a ∈ l, 0 ≤ a.cap) → 0 ≤ cutCap S l
 | [], _ => by simp [cutCap]
 | a :: l, h => by
  have := cutCap_nonneg S l fun b hb => h b (List.mem_cons_of_mem _ hb)
  have := h a (List.mem_cons_self ..)
  simp only [cutCap]; split <;> omega
theorem cutCap_le (S : Int → Bool) : ∀ l : List Arc, (∀ a ∈ l, 0 ≤ a.cap ∧ a.cap ≤ 65536) → cutCap S l ≤ 65536 * l.length
 | [], _ => by simp [cutCap]
 | a :: l, h => by
  have := cutCap_le S l fun b hb => h b (List.mem_cons_of_mem _ hb)
  have := h a (List.mem_cons_self ..)
  simp only [cutCap, List.length_cons]; split <;> omega
def IsMax (n : Nat) (l : List Arc) (s t amt : Int) : Prop := (∃ on, IsFlow n l s t on amt) ∧ ∃ S : Int → Bool, S s = true ∧ S t = false ∧ cutCap S l = amt
theorem IsMax.unique {n : Nat} {l : List Arc} {s t a b : Int} (hn : NodesOk n l) (hs : 0 ≤ s ∧ s < n) (ha : IsMax n l s t a) (hb : IsMax n l s t b) : a = b := by
 obtain ⟨⟨on, h1⟩, S, h2, h3, h4⟩ := ha
 obtain ⟨⟨on', g1⟩, S', g2, g3, g4⟩ := hb
 have := weak_dual h1 hn hs g2 g3
 have := weak_dual g1 hn hs h2 h3
 omega
end Go.Proofs.YthobaaefdehoiaaGreat.Flo
