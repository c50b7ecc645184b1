/-
 Walk: solve.
-/
import Derived.Test.YthobaaefdehoiaaGreatB1
import Derived.Test.YthobaaefdehoiaaGreatPtr
import Derived.Test.YthobaaefdehoiaaGreatT12
import Derived.Scope
import Derived.Test.YthobaaefdehoiaaGreatFacts
import Derived.RangeFuncBox
import Derived.RangeFuncLeaves
import Derived.Shelf.Abstract
import Derived.WalkKit
import Derived.OwnWalkIn
import Derived.TacticsInMore
import Derived.LoopNIn
import Derived.LoopIn
import Derived.Maps.AppendAt
import Derived.Test.YthobaaefdehoiaaGreatProg
set_option linter.all false
namespace Go.Proofs.YthobaaefdehoiaaGreat
open Go Go.W Go.RowKit
def bndL (s b : Int) (AU : Option Addr) (nu cu : Nat) (AV : Option Addr) (nv cv : Nat) : List Value := [I s, I b, .slice AU nu cu, .slice AV nv cv]
theorem boundNetwork2 {C D : List Int} {tm : List (List Int)} (Ac Ab At : Option Addr) (cs bs : List Need) (rs : List (SlA Int)) (kc kb kt : Nat) (cp hv wt : Int) (w0 : World) (hT : TaskAt w0 Ac Ab At cs bs rs) (hK : TaskOk cs bs rs) (hC : C = cs.map (·.move)) (hD : D = bs.map fun x => -x.move) (htm : tm = rs.map (·.l)) :
  Calls Tryz.prog 41 #[.agg (tskC Ac Ab At cs.length bs.length rs.length kc kb kt cp hv wt).toArray] w0 fun e w' => ∃ (A : Option Addr) (cap : Nat) (L : List Blk), e = .returned (.agg #[I (C.length + D.length + 2 : Nat), .slice A (netP C D tm).length cap]) ∧ Reads L (fun w => Flo.ArcsAt w A (netP C D tm)) ∧ SH w0 [] w' L := by
 have e1 : netOf cs bs rs = netP C D tm := by subst hC hD htm; simp [netOf, netP]
 have e2 : (cs.length : Int) + bs.length + 1 + 1 = (C.length + D.length + 2 : Nat) := by subst hC hD; simp; omega
 have h := boundNetwork Ac Ab At cs bs rs kc kb kt cp hv wt w0 hT hK
 rw [e1, e2] at h
 exact h
theorem sv2 {a b c d e f g : Blk} {Lu Lv : List Blk} : (a :: (([b, c, d, e, f, g] : List Blk) ++ (Lu ++ Lv))).Perm (([a, b, c, d, e, f, g] ++ Lu) ++ Lv) := perm_by fun f => by simp <;> omega
def usL (pots : List Int) (k : Nat) : List Int := (List.range k).map fun i => pots.getD (1 + i) 0
theorem usL_succ (pots : List Int) (k : Nat) : usL pots (k + 1) = usL pots k ++ [pots.getD (1 + k) 0] := by simp [usL, List.range_succ]
theorem usL_len (pots : List Int) (k : Nat) : (usL pots k).length = k := by simp [usL]
theorem usL_get (pots : List Int) {k j : Nat} (h : j < k) : (usL pots k).getD j 0 = pots.getD (1 + j) 0 := by simp [usL, h]
set_option maxRecDepth 20000 in
set_option maxHeartbeats 4000000 in
theorem boundSolve {C D : List Int} {tm : List (List Int)} (Ac Ab At : Option Addr) (cs bs : List Need) (rs : List (SlA Int)) (kc kb kt : Nat) (cp : Int) (w0 : World) (hT : TaskAt w0 Ac Ab At cs bs rs) (hK : TaskOk cs bs rs) (hC : C = cs.map (·.move)) (hD : D = bs.map fun x => -x.move) (htm : tm = rs.map (·.l)) (hX : Flo.Trans C D tm) (hcp : 0 ≤ cp ∧ cp ≤ 32) :
  Calls Tryz.prog 25 #[.agg (tskC Ac Ab At cs.length bs.length rs.length kc kb kt cp C.sum D.sum).toArray] w0 fun e w' =>
   (emptyB cp C.sum D.sum = true → e = .returned (.tuple #[.agg zeroB.toArray, I 10]) ∧ Below w0.heap.size w0 w') ∧
   (emptyB cp C.sum D.sum = false → ¬ Flo.Hall C D tm → e = .returned (.tuple #[.agg zeroB.toArray, I 15]) ∧ Below w0.heap.size w0 w') ∧
   (emptyB cp C.sum D.sum = false → Flo.Hall C D tm → ∃ (us vs : List Int) (T : Int) (AU AV : Option Addr) (cu cv : Nat) (L : List Blk), Flo.Solved C D tm us vs T ∧ e = .returned (.tuple #[.agg (bndL (divI T cp) D.sum AU us.length cu AV vs.length cv).toArray, I 0]) ∧ Reads L (fun w => IntsAt w AU us ∧ IntsAt w AV vs) ∧ SH w0 [] w' L) := by
 have H := SH.refl w0
 have hcl := hK.cl
 have hbl := hK.bl
 have hrl := hK.rl
 have hCl : C.length = cs.length := by rw [hC]; simp
 have hDl : D.length = bs.length := by rw [hD]; simp
 have htl : tm.length = rs.length := by rw [htm]; simp
 have hds := hX.dsum
 by_cases hHall : Flo.Hall C D tm
 ·have hHall2 := hHall
  refine Calls.ofWPc Tryz.func25 rfl Tryz.results25 Tryz.ntmps25 rfl <| Y.qr <| Y.bx (cA rfl) H ?_
  clear H; intro g1 w H
  refine Y.al H rfl rfl ?_
  clear H; intro g2 w H
  refine Y.b rfl <| Y.z <| Y.q <| Y.qr <| Y.fa rfl rfl <| Y.j H 1 rfl rfl rfl <| Y.v (Ev.eql rfl rfl) <| Y.v (Ev.mvB rfl) <| Y.g rfl rfl (fun hg => Y.f rfl rfl) <| Y.y rfl rfl H 1 (fun hg => gvE hg rfl) rfl rfl <| Y.g rfl rfl (fun hg => Y.f rfl rfl) <| Y.y rfl rfl H 1 (fun hg => gvE hg rfl) rfl rfl <| Y.g rfl rfl (fun hg => Ev.gtr (gvE hg rfl) (gvE hg rfl)) <| Y.v (Ev.pickOr rfl rfl rfl) <| Y.z ?_
  refine WP.cond rfl (fun hc1 => ?_) (fun hc1 => ?_)
  ·refine Y.qr <| Y.v (Ev.build (bld_40_ (e := fun _ => .int .i64 0))) <| Y.ss 0 H rfl (cA rfl) rfl ?_
   clear H; intro w H
   refine Y.b rfl <| Y.z ?_
   refine WP.ret ⟨[_, _], ⟨(by exact resCellA 0 H rfl (agg_run rfl) (size_run rfl) (by rfl) rfl), rfl, trivial⟩, ?_⟩
   exact ⟨fun _ => ⟨rfl, H.below⟩, fun h => absurd (show emptyB cp C.sum D.sum = true from hc1) (by rw [h]; simp), fun h => absurd (show emptyB cp C.sum D.sum = true from hc1) (by rw [h]; simp)⟩
  have hem : emptyB cp C.sum D.sum = false := hc1
  have hcp1 : 1 ≤ cp := by simp [emptyB] at hem; omega
  refine Y.k <| Y.qr <| Y.v (Y.o H 1 rfl rfl) <| OPS.call (d := some 27) rfl rfl rfl (EvC.func (fun_run rfl)) (boundNetwork2 (C := C) (D := D) (tm := tm) Ac Ab At cs bs rs kc kb kt cp C.sum D.sum w (hT.below H.below) hK hC hD htm) ?_
  rintro _ w ⟨A, cap, LA, rfl, hA, Hc⟩
  refine ⟨_, rfl, ?_⟩
  replace H := SH.call (Lv := []) (by rw [List.append_nil]; exact H) Hc
  clear Hc
  refine Y.al H rfl rfl ?_
  clear H; intro g4 w H
  refine Y.ss 0 H rfl (cA rfl) rfl ?_
  clear H; intro w H
  refine Y.z <| Y.qr <| Y.v (Y.o H 0 rfl rfl) <| Y.fa rfl rfl <| Y.j H 0 rfl rfl rfl <| Y.v (Y.s rfl rfl) <| Y.fa rfl rfl <| Y.j H 2 rfl rfl rfl ?_
  have hcheap := Calls.mono (netCheap hX A cap w (hA.at H (List.sublist_append_right [_, _, _] _))) fun _ _ h => h.2 hHall
  refine OPS.call (d := some 35) rfl rfl rfl (EvC.func (fun_run rfl)) (hcheap) ?_
  rintro _ w ⟨go, gp, on, pots, rfl, hN, hf, ho, hpl, hp0, hpb, Hc⟩
  refine ⟨_, rfl, ?_⟩
  replace H := SH.call (Lv := []) (by rw [List.append_nil]; exact H) Hc
  clear Hc hcheap
  refine Y.v (Ev.mvT rfl) <| Y.v (Ev.extract rfl rfl) <| Y.v (Ev.extract rfl rfl) <| Y.al H rfl rfl ?_
  clear H; intro g5 w H
  refine Y.ss 0 H rfl (cA rfl) rfl ?_
  clear H; intro w H
  refine Y.b rfl <| Y.z <| Y.q <| Y.qr <| Y.a rfl <| Y.v (Ev.neq rfl rfl) <| Y.z ?_
  refine WP.cond rfl (fun hc5 => ?_) (fun hc5 => ?_)
  ·refine Y.qr <| Y.v (Ev.build (bld_40_ (e := fun _ => .int .i64 0))) <| Y.ss 2 H rfl (cA rfl) rfl ?_
   clear H; intro w H
   refine Y.b rfl <| Y.z ?_
   refine WP.ret ⟨[_, _], ⟨(by exact resCellA 2 H rfl (agg_run rfl) (size_run rfl) (by rfl) rfl), rfl, trivial⟩, ?_⟩
   exact absurd hc5 (by decide)
  have hp00 : pots.getD 0 0 = 0 := hp0
  have hpg : ∀ i : Nat, 0 ≤ pots.getD i 0 ∧ pots.getD i 0 ≤ 1000000000 := fun i => by have := hpb (i : Int); simpa [Flo.potF] using this
  obtain ⟨T, hTe⟩ : ∃ T, T = Flo.costOf (netP C D tm) on := ⟨_, rfl⟩
  have hTb : 0 ≤ T ∧ T ≤ 4000000000000 := by
   have h1 := Flo.costOf_bd hN hf.v (netP C D tm).length (Nat.le_refl _)
   rw [List.take_length, List.take_of_length_le (by rw [hf.v.len]; omega)] at h1
   have := netP_len hX
   omega
  rw [← hTe] at H ⊢
  replace H : SH w0 [] w [⟨g5, 104, [I D.sum, I T, .slice (some ⟨go, 0, none⟩) on.length on.length, .slice (some ⟨gp, 0, none⟩) pots.length pots.length]⟩, ⟨g2, 40, zeroB⟩, ⟨g1, 72, tskC Ac Ab At cs.length bs.length rs.length kc kb kt cp C.sum D.sum⟩, ⟨go, 3, on.map I⟩, ⟨gp, 3, pots.map I⟩] := by
   have h := (H.reidxT (L := [_, _, _, _]) (L' := [⟨g5, 104, [I D.sum, I T, .slice (some ⟨go, 0, none⟩) on.length on.length, .slice (some ⟨gp, 0, none⟩) pots.length pots.length]⟩, ⟨g2, 40, zeroB⟩, ⟨g1, 72, tskC Ac Ab At cs.length bs.length rs.length kc kb kt cp C.sum D.sum⟩]) (Lo := LA ++ [⟨go, 3, on.map I⟩, ⟨gp, 3, pots.map I⟩]) [0, 2, 3] (by decide) rfl)
   exact h.drop (List.Sublist.append (List.Sublist.refl [_, _, _]) (List.sublist_append_right _ _))
  refine Y.k <| Y.q ?_
  refine WP.rheldC [7, 41, 42, 43, 44, 45, 46, 47, 48] (fun u w' => ∃ g7 : Nat, u 7 = .pointer (some ⟨g7, 0, none⟩) ∧ SH w0 [] w' [⟨g7, 40, bndL (divI T cp) D.sum none 0 0 none 0 0⟩, ⟨g5, 104, [I D.sum, I T, .slice (some ⟨go, 0, none⟩) on.length on.length, .slice (some ⟨gp, 0, none⟩) pots.length pots.length]⟩, ⟨g2, 40, zeroB⟩, ⟨g1, 72, tskC Ac Ab At cs.length bs.length rs.length kc kb kt cp C.sum D.sum⟩, ⟨go, 3, on.map I⟩, ⟨gp, 3, pots.map I⟩]) mixed H ?_ ?_
  ·clear H; intro w hbw7 H
   refine Y.t 0 H rfl rfl (fun w H => Y.f rfl rfl) <| Y.t 1 H rfl rfl (fun w H => Y.l H 2 rfl rfl rfl) <| Y.t 2 H rfl rfl (fun w H => Y.f rfl rfl) <| Y.t 3 H rfl rfl (fun w H => Y.l H 0 rfl rfl rfl) <| Y.t 4 H rfl rfl (fun w H => Y.f rfl rfl) <| Y.t 5 H rfl rfl (fun w H => Y.l H 2 rfl rfl rfl) ?_
   refine Y.A2 6 8 rfl rfl rfl ?_ ?_
   ·refine OPS.call (d := some 47) rfl rfl rfl (EvC.func (fun_run rfl)) (boundUp T cp _ (by omega) (by omega)) ?_
    rintro _ w ⟨rfl, hb⟩
    refine ⟨_, rfl, ?_⟩
    replace H := H.toBelow hb; clear hb
    refine Y.z <| ⟨(H), ?_⟩
    refine Y.t 7 H rfl rfl (fun w H => Ev.build (bld_40_1_0 rfl rfl)) <| Y.A1 8 rfl rfl <| Y.al H rfl rfl ?_
    clear H; intro g7 w H
    refine Y.z <| ⟨(H.drop (List.sublist_cons_self _ _)), ?_⟩
    refine Y.A1 9 rfl rfl <| Y.ss 0 H rfl (cA rfl) rfl ?_
    clear H; intro w H
    refine Y.z <| ⟨(H.drop (List.sublist_cons_self _ _)), ?_⟩
    refine Y.dn ?_
    exact ⟨Y.ag, g7, rfl, H⟩
   ·refine Y.al H rfl rfl ?_
    clear H; intro g7 w H
    refine Y.z <| ⟨(H.drop (List.sublist_cons_self _ _)), ?_⟩
    refine Y.A1 6 rfl rfl <| OPS.call (d := some 47) rfl rfl rfl (EvC.func (fun_run rfl)) (boundUp T cp _ (by omega) (by omega)) ?_
    rintro _ w ⟨rfl, hb⟩
    refine ⟨_, rfl, ?_⟩
    replace H := H.toBelow hb; clear hb
    refine Y.z <| ⟨(H.drop (List.sublist_cons_self _ _)), ?_⟩
    refine Y.t 7 (H.drop (List.sublist_cons_self _ _)) rfl rfl (fun w H => Ev.build (bld_40_1_0 rfl rfl)) <| Y.A1 9 rfl rfl <| Y.ss 0 H rfl (cA rfl) rfl ?_
    clear H; intro w H
    refine Y.z <| ⟨(H.drop (List.sublist_cons_self _ _)), ?_⟩
    refine Y.dn ?_
    exact ⟨Y.ag, g7, rfl, H⟩
  clear H
  rintro u w ⟨g7, h7, H⟩
  refine WP.know (t := 7) h7 ?_
  have hp : ∀ w, SH w0 [] w [⟨g5, 104, [I D.sum, I T, .slice (some ⟨go, 0, none⟩) on.length on.length, .slice (some ⟨gp, 0, none⟩) pots.length pots.length]⟩, ⟨g2, 40, zeroB⟩, ⟨g1, 72, tskC Ac Ab At cs.length bs.length rs.length kc kb kt cp C.sum D.sum⟩, ⟨go, 3, on.map I⟩, ⟨gp, 3, pots.map I⟩] → ∀ i, i < pots.length → w.cell? ⟨gp, 0 + i, none⟩ = some (I (pots.getD i 0)) := fun w H i hi => by rw [Nat.zero_add]; exact intCell H 4 rfl i hi
  refine Y.q <| Y.qr <| Y.fa rfl rfl <| Y.j H 3 rfl rfl rfl <| Y.v (Y.n rfl) <| Y.a rfl <| Y.z <| WP.block <| WP.loop [8, 52, 53, 54, 55, 56, 57, 58, 59, 60, 61, 62, 63, 64, 65, 66, 67, 68, 69, 70, 71, 72] (fun k e w' => ∃ (j : Nat) (AU : Option Addr) (cu : Nat) (Lu : List Blk), j + k = cs.length ∧ e 52 = I j ∧ OwnS AU cu j ((usL pots j).map I) 3 1 Lu ∧ SH w0 [] w' ([⟨g7, 40, bndL (divI T cp) D.sum AU j cu none 0 0⟩, ⟨g5, 104, [I D.sum, I T, .slice (some ⟨go, 0, none⟩) on.length on.length, .slice (some ⟨gp, 0, none⟩) pots.length pots.length]⟩, ⟨g2, 40, zeroB⟩, ⟨g1, 72, tskC Ac Ab At cs.length bs.length rs.length kc kb kt cp C.sum D.sum⟩, ⟨go, 3, on.map I⟩, ⟨gp, 3, pots.map I⟩] ++ Lu)) (cs.length) (⟨0, none, 0, [], by omega, rfl, OwnS.nil, by rw [List.append_nil]; exact H⟩) ?_
  clear H
  rintro k u w ⟨j, AU, cu, Lu, hk, h52, hOu, H⟩
  refine WP.know (t := 52) h52 <| Y.qr <| Y.v (Ev.lss rfl rfl) <| Y.z <| Y.q ?_
  refine WP.cond rfl (fun hc9 => ?_) (fun hc9 => ?_)
  ·have hlt : j < cs.length := by simpa using hc9
   have hb1 := hpg (1 + j)
   refine Y.k <| Y.q <| WP.block <| Y.qr <| Y.a rfl <| Y.b rfl <| Y.z ?_
   have E := H
   replace H := H.drop (L' := [⟨g5, 104, [I D.sum, I T, .slice (some ⟨go, 0, none⟩) on.length on.length, .slice (some ⟨gp, 0, none⟩) pots.length pots.length]⟩, ⟨g2, 40, zeroB⟩, ⟨g1, 72, tskC Ac Ab At cs.length bs.length rs.length kc kb kt cp C.sum D.sum⟩, ⟨go, 3, on.map I⟩, ⟨gp, 3, pots.map I⟩]) ((List.sublist_cons_self _ _).trans (List.sublist_append_left _ _))
   refine WP.rheldC [55, 56, 57, 58, 59, 60, 61, 62, 63, 64, 65, 66, 67, 68, 69, 70, 71] (fun _ w' => ∃ (AU : Option Addr) (cu : Nat) (Lu : List Blk), OwnS AU cu (j + 1) ((usL pots (j + 1)).map I) 3 1 Lu ∧ SH w0 [] w' ([⟨g7, 40, bndL (divI T cp) D.sum AU (j + 1) cu none 0 0⟩, ⟨g5, 104, [I D.sum, I T, .slice (some ⟨go, 0, none⟩) on.length on.length, .slice (some ⟨gp, 0, none⟩) pots.length pots.length]⟩, ⟨g2, 40, zeroB⟩, ⟨g1, 72, tskC Ac Ab At cs.length bs.length rs.length kc kb kt cp C.sum D.sum⟩, ⟨go, 3, on.map I⟩, ⟨gp, 3, pots.map I⟩] ++ Lu)) mixed H ?_ ?_
   ·clear H; intro w hbw11 H
    refine Y.t 0 H rfl rfl (fun w H => Y.f rfl rfl) <| Y.t 2 H rfl rfl (fun w H => Y.f rfl rfl) <| Y.t 3 H rfl rfl (fun w H => Y.l H 0 rfl rfl rfl) <| Y.t 4 H rfl rfl (fun w H => Y.m rfl) <| Y.t 5 H rfl rfl (fun w H => Y.p rfl rfl) <| Y.t 6 H rfl rfl (fun w H => Ev.indexAddr1 (j := 1 + j) (el_run rfl) (size_run rfl) rfl rfl (by omega) (by omega)) <| Y.t 7 H rfl rfl (fun w H => Y.c (hp w H (1 + j) (by omega)) rfl) <| Y.t 8 H rfl rfl (fun w H => Y.f rfl rfl) <| Y.t 9 H rfl rfl (fun w H => Y.l H 0 rfl rfl rfl) <| Y.t 10 H rfl rfl (fun w H => Ev.indexAddr1 (j := 0) (el_run rfl) (size_run rfl) rfl rfl rfl (by omega)) <| Y.t 11 H rfl rfl (fun w H => Y.c (hp w H 0 (by omega)) rfl) <| Y.t 12 H rfl rfl (fun w H => Y.s rfl rfl) <| Y.t 13 H rfl rfl (fun w H => Ev.max rfl rfl) ?_
    refine Y.A2 1 14 rfl rfl rfl ?_ ?_
    ·try replace E := E.toBelow hbw11
     refine Y.j E 0 rfl rfl rfl <| Y.z <| ⟨(H), ?_⟩
     refine Y.A1 14 rfl rfl ?_
     try replace E := E.toBelow hbw11
     refine OPS.buildSlice rfl rfl rfl rfl (bsl_30_1_0 rfl) E ?_
     clear H E; intro g69 w E
     have H := E.drop (L' := [⟨g5, 104, [I D.sum, I T, .slice (some ⟨go, 0, none⟩) on.length on.length, .slice (some ⟨gp, 0, none⟩) pots.length pots.length]⟩, ⟨g2, 40, zeroB⟩, ⟨g1, 72, tskC Ac Ab At cs.length bs.length rs.length kc kb kt cp C.sum D.sum⟩, ⟨go, 3, on.map I⟩, ⟨gp, 3, pots.map I⟩]) (List.Sublist.cons _ ((List.sublist_cons_self _ _).trans (List.sublist_append_left _ _)))
     refine Y.z <| ⟨(H), ?_⟩
     refine Y.A1 15 rfl rfl ?_
     have hmax : (if 0 < pots.getD (1 + j) 0 - pots.getD 0 0 then pots.getD (1 + j) 0 - pots.getD 0 0 else 0) = pots.getD (1 + j) 0 := by rw [hp00]; split <;> omega
     rw [hmax] at E
     refine OPS.append (m := 1) (news := [I (pots.getD (1 + j) 0)]) (R := [⟨g69, 3, [I (pots.getD (1 + j) 0)]⟩, ⟨g7, 40, bndL (divI T cp) D.sum AU j cu none 0 0⟩, ⟨g5, 104, [I D.sum, I T, .slice (some ⟨go, 0, none⟩) on.length on.length, .slice (some ⟨gp, 0, none⟩) pots.length pots.length]⟩, ⟨g2, 40, zeroB⟩, ⟨g1, 72, tskC Ac Ab At cs.length bs.length rs.length kc kb kt cp C.sum D.sum⟩, ⟨go, 3, on.map I⟩, ⟨gp, 3, pots.map I⟩]) rfl rfl rfl rfl rfl (sl_run rfl) rfl rfl hOu rfl (src_own E 0 rfl) rfl (by omega) (by unfold maxLen; omega) E (List.Perm.refl _) ?_
     clear H E; intro AU2 cu2 Lu2 w hOu E
     rw [show (usL pots j).map I ++ [I (pots.getD (1 + j) 0)] = (usL pots (j + 1)).map I by rw [usL_succ, List.map_append]; rfl] at hOu
     have H := E.drop (L' := [⟨g5, 104, [I D.sum, I T, .slice (some ⟨go, 0, none⟩) on.length on.length, .slice (some ⟨gp, 0, none⟩) pots.length pots.length]⟩, ⟨g2, 40, zeroB⟩, ⟨g1, 72, tskC Ac Ab At cs.length bs.length rs.length kc kb kt cp C.sum D.sum⟩, ⟨go, 3, on.map I⟩, ⟨gp, 3, pots.map I⟩]) (List.Sublist.cons _ ((List.sublist_cons_self _ _).trans (List.sublist_append_left _ _)))
     refine Y.z <| ⟨(H), ?_⟩
     refine Y.t 16 H rfl rfl (fun w H => Y.f rfl rfl) <| Y.A1 17 rfl rfl ?_
     unfold bndL at E
     refine Y.st 1 E rfl (cS rfl) rfl ?_
     clear H E; intro w E
     simp only [List.set_cons_zero, List.set_cons_succ, List.cons_append, List.nil_append, putL] at E
     have H := E.drop (L' := [⟨g5, 104, [I D.sum, I T, .slice (some ⟨go, 0, none⟩) on.length on.length, .slice (some ⟨gp, 0, none⟩) pots.length pots.length]⟩, ⟨g2, 40, zeroB⟩, ⟨g1, 72, tskC Ac Ab At cs.length bs.length rs.length kc kb kt cp C.sum D.sum⟩, ⟨go, 3, on.map I⟩, ⟨gp, 3, pots.map I⟩]) (List.Sublist.cons _ (List.Sublist.cons _ (List.sublist_append_left [_, _, _, _, _] _)))
     refine Y.z <| ⟨(H), ?_⟩
     refine Y.dn ?_
     exact ⟨Y.ag, _, _, _, hOu, E.drop (List.sublist_cons_self _ _)⟩
    ·try replace E := E.toBelow hbw11
     refine OPS.buildSlice rfl rfl rfl rfl (bsl_30_1_0 rfl) E ?_
     clear H E; intro g69 w E
     have H := E.drop (L' := [⟨g5, 104, [I D.sum, I T, .slice (some ⟨go, 0, none⟩) on.length on.length, .slice (some ⟨gp, 0, none⟩) pots.length pots.length]⟩, ⟨g2, 40, zeroB⟩, ⟨g1, 72, tskC Ac Ab At cs.length bs.length rs.length kc kb kt cp C.sum D.sum⟩, ⟨go, 3, on.map I⟩, ⟨gp, 3, pots.map I⟩]) (List.Sublist.cons _ ((List.sublist_cons_self _ _).trans (List.sublist_append_left _ _)))
     refine Y.z <| ⟨(H), ?_⟩
     refine Y.A1 1 rfl rfl ?_
     try replace E := E.toBelow hbw11
     refine Y.j E 1 rfl rfl rfl <| Y.z <| ⟨(H), ?_⟩
     refine Y.A1 15 rfl rfl ?_
     have hmax : (if 0 < pots.getD (1 + j) 0 - pots.getD 0 0 then pots.getD (1 + j) 0 - pots.getD 0 0 else 0) = pots.getD (1 + j) 0 := by rw [hp00]; split <;> omega
     rw [hmax] at E
     refine OPS.append (m := 1) (news := [I (pots.getD (1 + j) 0)]) (R := [⟨g69, 3, [I (pots.getD (1 + j) 0)]⟩, ⟨g7, 40, bndL (divI T cp) D.sum AU j cu none 0 0⟩, ⟨g5, 104, [I D.sum, I T, .slice (some ⟨go, 0, none⟩) on.length on.length, .slice (some ⟨gp, 0, none⟩) pots.length pots.length]⟩, ⟨g2, 40, zeroB⟩, ⟨g1, 72, tskC Ac Ab At cs.length bs.length rs.length kc kb kt cp C.sum D.sum⟩, ⟨go, 3, on.map I⟩, ⟨gp, 3, pots.map I⟩]) rfl rfl rfl rfl rfl (sl_run rfl) rfl rfl hOu rfl (src_own E 0 rfl) rfl (by omega) (by unfold maxLen; omega) E (List.Perm.refl _) ?_
     clear H E; intro AU2 cu2 Lu2 w hOu E
     rw [show (usL pots j).map I ++ [I (pots.getD (1 + j) 0)] = (usL pots (j + 1)).map I by rw [usL_succ, List.map_append]; rfl] at hOu
     have H := E.drop (L' := [⟨g5, 104, [I D.sum, I T, .slice (some ⟨go, 0, none⟩) on.length on.length, .slice (some ⟨gp, 0, none⟩) pots.length pots.length]⟩, ⟨g2, 40, zeroB⟩, ⟨g1, 72, tskC Ac Ab At cs.length bs.length rs.length kc kb kt cp C.sum D.sum⟩, ⟨go, 3, on.map I⟩, ⟨gp, 3, pots.map I⟩]) (List.Sublist.cons _ ((List.sublist_cons_self _ _).trans (List.sublist_append_left _ _)))
     refine Y.z <| ⟨(H), ?_⟩
     refine Y.t 16 H rfl rfl (fun w H => Y.f rfl rfl) <| Y.A1 17 rfl rfl ?_
     unfold bndL at E
     refine Y.st 1 E rfl (cS rfl) rfl ?_
     clear H E; intro w E
     simp only [List.set_cons_zero, List.set_cons_succ, List.cons_append, List.nil_append, putL] at E
     have H := E.drop (L' := [⟨g5, 104, [I D.sum, I T, .slice (some ⟨go, 0, none⟩) on.length on.length, .slice (some ⟨gp, 0, none⟩) pots.length pots.length]⟩, ⟨g2, 40, zeroB⟩, ⟨g1, 72, tskC Ac Ab At cs.length bs.length rs.length kc kb kt cp C.sum D.sum⟩, ⟨go, 3, on.map I⟩, ⟨gp, 3, pots.map I⟩]) (List.Sublist.cons _ (List.Sublist.cons _ (List.sublist_append_left [_, _, _, _, _] _)))
     refine Y.z <| ⟨(H), ?_⟩
     refine Y.dn ?_
     exact ⟨Y.ag, _, _, _, hOu, E.drop (List.sublist_cons_self _ _)⟩
   clear H
   rintro u w ⟨AU, cu, Lu, hOu, H⟩
   refine Y.r <| Y.v (Y.p rfl rfl) <| Y.a rfl <| Y.z ?_
   exact ⟨Y.ag, k - 1, by omega, j + 1, AU, cu, Lu, by omega, rfl, hOu, H⟩
  have hj : j = cs.length := by simp at hc9; omega
  subst hj
  obtain ⟨us, hus⟩ : ∃ us, us = usL pots cs.length := ⟨_, rfl⟩
  have husl : us.length = cs.length := by rw [hus]; exact usL_len _ _
  have husg : ∀ j, j < cs.length → us.getD j 0 = pots.getD (1 + j) 0 := fun j hj => by rw [hus]; exact usL_get _ hj
  have husb : ∀ j, 0 ≤ us.getD j 0 ∧ us.getD j 0 ≤ 1000000000 := fun j => by
   by_cases hj : j < cs.length
   ·rw [husg j hj]; exact hpg _
   ·simp [show ¬ j < us.length by omega]
  rw [← hus] at hOu
  have hrU : ∀ w R, SH w0 [] w (R ++ Lu) → IntsAt w AU us := fun w R H => (hOu.ones H).1
  refine WP.exit <| XB.hit <| Y.q <| Y.qr <| Y.fa rfl rfl <| Y.j H 3 rfl rfl rfl <| Y.v (Y.n rfl) <| Y.a rfl <| Y.z <| WP.block <| WP.loop [9, 10, 11, 12, 13, 14, 76, 77, 78, 79, 80, 81, 82, 83, 84, 85, 86, 87, 88, 89, 90, 91, 92, 93, 94, 95, 96, 97, 98, 99, 100, 101, 102, 103, 104, 105, 106, 107, 108, 109, 110, 111, 112, 113, 114, 115, 116, 117, 118] (fun k e w' => ∃ (q : Nat) (AV : Option Addr) (cv : Nat) (Lv : List Blk) (vs : List Int), q + k = bs.length ∧ e 76 = I q ∧ vs.length = q ∧ (∀ i, i < q → ∃ found, Flo.VMin tm (fun j => us.getD j 0) i cs.length (vs.getD i 0) found) ∧ OwnS AV cv q (vs.map I) 3 1 Lv ∧ SH w0 [] w' ([⟨g7, 40, bndL (divI T cp) D.sum AU cs.length cu AV q cv⟩, ⟨g5, 104, [I D.sum, I T, .slice (some ⟨go, 0, none⟩) on.length on.length, .slice (some ⟨gp, 0, none⟩) pots.length pots.length]⟩, ⟨g2, 40, zeroB⟩, ⟨g1, 72, tskC Ac Ab At cs.length bs.length rs.length kc kb kt cp C.sum D.sum⟩, ⟨go, 3, on.map I⟩, ⟨gp, 3, pots.map I⟩] ++ (Lu ++ Lv))) (bs.length) (⟨0, none, 0, [], [], by omega, rfl, rfl, (fun i h => absurd h (by omega)), OwnS.nil, by rw [List.append_nil]; exact H⟩) ?_
  clear H
  rintro k u w ⟨q, AV, cv, Lv, vs, hk, h76, hvl, hvm, hOv, H⟩
  refine WP.know (t := 76) h76 <| Y.qr <| Y.v (Ev.lss rfl rfl) <| Y.z <| Y.q ?_
  refine WP.cond rfl (fun hc14 => ?_) (fun hc14 => ?_)
  ·have hltq : q < bs.length := by simpa using hc14
   refine Y.k <| Y.q <| WP.block <| Y.qr <| Y.a rfl <| Y.b rfl <| Y.z <| Y.qr <| Y.b rfl <| Y.v (Ev.asB rfl) <| Y.z <| Y.q <| Y.q ?_
   unfold bndL at H
   refine Y.r <| Y.fa rfl rfl <| Y.j H 0 rfl rfl rfl <| Y.v (Y.n rfl) <| Y.a rfl <| Y.z <| WP.block <| WP.loop [10, 11, 12, 13, 14, 82, 83, 84, 85, 86, 87, 88, 89, 90, 91, 92, 93, 94, 95, 96, 97, 98, 99, 100, 101, 102, 103, 104, 105, 106, 107, 108, 109, 110, 111] (fun k e w' => ∃ (i : Nat) (v : Int) (found : Bool), i + k = cs.length ∧ e 82 = I i ∧ e 10 = I v ∧ e 11 = Bo found ∧ Flo.VMin tm (fun j => us.getD j 0) q i v found ∧ (0 ≤ v ∧ v ≤ 2000000000) ∧ SH w0 [] w' ([⟨g7, 40, bndL (divI T cp) D.sum AU cs.length cu AV q cv⟩, ⟨g5, 104, [I D.sum, I T, .slice (some ⟨go, 0, none⟩) on.length on.length, .slice (some ⟨gp, 0, none⟩) pots.length pots.length]⟩, ⟨g2, 40, zeroB⟩, ⟨g1, 72, tskC Ac Ab At cs.length bs.length rs.length kc kb kt cp C.sum D.sum⟩, ⟨go, 3, on.map I⟩, ⟨gp, 3, pots.map I⟩] ++ (Lu ++ Lv))) (cs.length) (⟨0, 0, false, by omega, rfl, rfl, rfl, Flo.VMin.zero, by omega, H⟩) ?_
   clear H
   rintro k2 u2 w ⟨i, v, found, hk2, h82, h10, h11, hVM, hvb, H⟩
   refine WP.know (t := 82) h82 (WP.know (t := 10) h10 (WP.know (t := 11) h11 ?_))
   refine Y.qr <| Y.v (Ev.lss rfl rfl) <| Y.z <| Y.q ?_
   refine WP.cond rfl (fun hc18 => ?_) (fun hc18 => ?_)
   ·have hlti : i < cs.length := by simpa using hc18
    obtain ⟨bu, ou, rfl, hxu⟩ := hrU w _ (H.drop (List.Sublist.append (List.Sublist.refl _) (List.sublist_append_left Lu Lv))) i (by omega)
    have hug : us[i]'(by omega) = us.getD i 0 := by simp [show i < us.length by omega]
    rw [hug] at hxu
    have hub := husb i
    obtain ⟨r, hre⟩ : ∃ r, r = rs[i]'(by omega) := ⟨_, rfl⟩
    have hrm : r ∈ rs := by rw [hre]; exact List.getElem_mem _
    have hrI := hT.r r hrm
    have hrb := hK.row r hrm
    obtain ⟨bt, ot, rfl, hxt⟩ := hT.t i (by omega)
    rw [← hre] at hxt
    have hxe : Flo.tmAt tm i q = some (r.l[q]'(by omega)) := by
     have e1 : (rs.map (·.l))[i]? = some r.l := by simp [show i < rs.length by omega, ← hre]
     rw [← htm] at e1
     unfold Flo.tmAt
     rw [e1]
     simp [show q < r.l.length by omega]
    clear hre hrm
    obtain ⟨rA, rc, rl⟩ := r
    simp only [slV] at hxt hrI hrb hxe
    obtain ⟨br, orr, rfl, hxr⟩ := hrI q (by omega)
    obtain ⟨x, hx⟩ : ∃ x, x = rl[q]'(by omega) := ⟨_, rfl⟩
    rw [← hx] at hxr hxe
    have hxb := hX.tb i q x hxe
    have hstep := hVM.step hxe
    unfold bndL at H
    refine Y.k <| Y.q <| WP.block <| Y.qr <| Y.a rfl <| Y.v (Y.x rfl rfl rfl rfl) <| Y.v (Y.c (by assumption) rfl) ?_
    refine Y.b rfl <| Y.b rfl <| Y.z <| Y.qr <| Y.fa rfl rfl <| Y.j H 3 rfl rfl rfl <| Y.a rfl <| Y.v (Y.x rfl rfl rfl rfl) <| Y.v (Y.c (H.ld0 (by assumption)) rfl) ?_
    refine Y.a rfl <| Y.v (Y.x rfl rfl rfl rfl) <| Y.v (Y.c (H.ld0 (by assumption)) rfl) ?_
    refine Y.b rfl <| Y.z <| Y.qr <| Y.a rfl <| Y.v (Ev.geq rfl rfl) <| Y.v (Ev.mvB rfl) <| Y.g rfl rfl (fun hg => Ev.mvB rfl) <| Y.g rfl rfl (fun hg => Ev.not (gvE hg rfl)) <| Y.g rfl rfl (fun hg => Ev.mvB (gvE hg rfl)) <| OPS.gvalN rfl rfl (GB.g rfl) rfl rfl (fun hg => Ev.mvI rfl) <| OPS.gvalN rfl rfl (GB.g rfl) rfl rfl (fun hg => Ev.mvI rfl) <| OPS.gvalN rfl rfl (GB.g rfl) rfl rfl (fun hg => Ev.add (gvE hg rfl) (gvE hg rfl) (by unfold fits; omega)) <| OPS.gvalN rfl rfl (GB.g rfl) rfl rfl (fun hg => Ev.mvI rfl) <| OPS.gvalN rfl rfl (GB.g rfl) rfl rfl (fun hg => Ev.lss (gvE hg rfl) (gvE hg rfl)) <| Y.g rfl rfl (fun hg => Ev.pickOr2 (beqT hg) (gvE hg rfl) rfl rfl) <| Y.v (Ev.pickAnd rfl rfl rfl) <| Y.z ?_
    refine WP.cond rfl (fun hc21 => ?_) (fun hc21 => ?_)
    ·have hcd : (decide (0 ≤ x) && (!found || decide (x + us.getD i 0 < v))) = true := hc21
     have hx0 : 0 ≤ x := by simp at hcd; exact hcd.1
     rw [if_pos hcd, show (found || decide (0 ≤ x)) = true by simp [hx0]] at hstep
     have hvb2 : 0 ≤ x + us.getD i 0 ∧ x + us.getD i 0 ≤ 2000000000 := by omega
     refine Y.r <| Y.a rfl <| Y.a rfl <| Y.v (Y.p rfl rfl) <| Y.b rfl <| Y.v (Ev.asB rfl) <| Y.z <| Y.r <| Y.v (Y.p rfl rfl) <| Y.a rfl <| Y.z ?_
     exact ⟨Y.ag, k2 - 1, by omega, i + 1, _, _, by omega, rfl, rfl, rfl, hstep, hvb2, H⟩
    have hcd : (decide (0 ≤ x) && (!found || decide (x + us.getD i 0 < v))) = false := hc21
    rw [if_neg (by rw [hcd]; simp), show (found || decide (0 ≤ x)) = found by
     cases found with
     | true => rfl
     | false => simp at hcd; simp; omega] at hstep
    have hvb2 := hvb
    refine Y.k <| Y.r <| Y.v (Y.p rfl rfl) <| Y.a rfl <| Y.z ?_
    exact ⟨Y.ag, k2 - 1, by omega, i + 1, _, _, by omega, rfl, rfl, rfl, hstep, hvb2, H⟩
   have hi : i = cs.length := by simp at hc18; omega
   subst hi
   refine WP.exit <| XB.hit <| Y.r <| Y.fa rfl rfl <| Y.j H 0 rfl rfl rfl <| Y.a rfl <| OPS.buildSlice rfl rfl rfl rfl (bsl_30_1_0 rfl) H ?_
   clear H; intro g115 w H
   refine OPS.append (m := 1) (news := [I v]) (R := [⟨g115, 3, [I v]⟩, ⟨g7, 40, bndL (divI T cp) D.sum AU cs.length cu AV q cv⟩, ⟨g5, 104, [I D.sum, I T, .slice (some ⟨go, 0, none⟩) on.length on.length, .slice (some ⟨gp, 0, none⟩) pots.length pots.length]⟩, ⟨g2, 40, zeroB⟩, ⟨g1, 72, tskC Ac Ab At cs.length bs.length rs.length kc kb kt cp C.sum D.sum⟩, ⟨go, 3, on.map I⟩, ⟨gp, 3, pots.map I⟩] ++ Lu) rfl rfl rfl rfl rfl (sl_run rfl) rfl rfl hOv rfl (src_own H 0 rfl) rfl (by omega) (by unfold maxLen; omega) H sv2 ?_
   clear H hOv; intro AV cv Lv w hOv H
   unfold bndL at H
   simp only [List.cons_append, List.nil_append] at H
   refine Y.fa rfl rfl <| Y.ss 1 H rfl (cS rfl) rfl ?_
   clear H; intro w H
   refine Y.z <| Y.r <| Y.v (Y.p rfl rfl) <| Y.a rfl <| Y.z ?_
   refine ⟨Y.ag, k - 1, by omega, q + 1, AV, cv, Lv, vs ++ [v], by omega, rfl, by simp [hvl], fun i hi => ?_, (by rw [List.map_append]; exact hOv), ?_⟩
   ·by_cases hiq : i = q
    ·subst hiq
     refine ⟨found, ?_⟩
     have e : (vs ++ [v]).getD i 0 = v := by rw [← hvl]; simp
     rw [e]; exact hVM
    ·obtain ⟨f, hf⟩ := hvm i (by omega)
     refine ⟨f, ?_⟩
     have e : (vs ++ [v]).getD i 0 = vs.getD i 0 := by simp [List.getElem?_append_left (show i < vs.length by omega)]
     rw [e]; exact hf
   ·exact H.drop (List.sublist_cons_self _ _)
  have hq : q = bs.length := by simp at hc14; omega
  subst hq
  have hsol : Flo.Solved C D tm us vs T := by
   rw [hTe]
   refine Flo.solved_of hX hN (Flo.stand_p C D) (.inl rfl) hf ho hp0 hpb (by omega) (fun j hj => ?_) (by omega) (fun k hk => ?_) ⟨on, hf, rfl⟩
   ·rw [husg j (by omega)]; unfold Flo.potF; rw [show ((1 : Int) + (j : Int)).toNat = 1 + j by omega]
   ·rw [hCl]; exact hvm k (by omega)
  unfold bndL zeroB at H
  simp only [List.cons_append, List.nil_append] at H
  refine WP.exit <| XB.hit <| Y.qr <| Y.v (Y.o H 0 rfl rfl) <| Y.ss 2 H rfl (cA rfl) rfl ?_
  clear H; intro w H
  refine Y.b rfl <| Y.z ?_
  refine WP.ret ⟨[_, _], ⟨(by exact resCellA 2 H rfl (agg_run rfl) (size_run rfl) (by rfl) rfl), rfl, trivial⟩, ?_⟩
  have H2 : SH w0 [] w ([_, _, _, _, _, _] ++ (Lu ++ Lv)) := H
  refine ⟨fun h => absurd hem (by rw [h]; simp), fun _ h => absurd hHall h, fun _ _ => ⟨us, vs, T, AU, AV, cu, cv, Lu ++ Lv, hsol, ?_, fun w0 S w H => ?_, H2.drop (List.sublist_append_right _ _)⟩⟩
  ·rw [husl, hvl]; rfl
  ·exact ⟨(hOu.ones (R := Lv) (H.perm List.perm_append_comm)).1, (hOv.ones H).1⟩
 ·have hHall2 := hHall
  refine Calls.ofWPc Tryz.func25 rfl Tryz.results25 Tryz.ntmps25 rfl <| Y.qr <| Y.bx (cA rfl) H ?_
  clear H; intro g1 w H
  refine Y.al H rfl rfl ?_
  clear H; intro g2 w H
  refine Y.b rfl <| Y.z <| Y.q <| Y.qr <| Y.fa rfl rfl <| Y.j H 1 rfl rfl rfl <| Y.v (Ev.eql rfl rfl) <| Y.v (Ev.mvB rfl) <| Y.g rfl rfl (fun hg => Y.f rfl rfl) <| Y.y rfl rfl H 1 (fun hg => gvE hg rfl) rfl rfl <| Y.g rfl rfl (fun hg => Y.f rfl rfl) <| Y.y rfl rfl H 1 (fun hg => gvE hg rfl) rfl rfl <| Y.g rfl rfl (fun hg => Ev.gtr (gvE hg rfl) (gvE hg rfl)) <| Y.v (Ev.pickOr rfl rfl rfl) <| Y.z ?_
  refine WP.cond rfl (fun hc1 => ?_) (fun hc1 => ?_)
  ·refine Y.qr <| Y.v (Ev.build (bld_40_ (e := fun _ => .int .i64 0))) <| Y.ss 0 H rfl (cA rfl) rfl ?_
   clear H; intro w H
   refine Y.b rfl <| Y.z ?_
   refine WP.ret ⟨[_, _], ⟨(by exact resCellA 0 H rfl (agg_run rfl) (size_run rfl) (by rfl) rfl), rfl, trivial⟩, ?_⟩
   exact ⟨fun _ => ⟨rfl, H.below⟩, fun h => absurd (show emptyB cp C.sum D.sum = true from hc1) (by rw [h]; simp), fun h => absurd (show emptyB cp C.sum D.sum = true from hc1) (by rw [h]; simp)⟩
  have hem : emptyB cp C.sum D.sum = false := hc1
  refine Y.k <| Y.qr <| Y.v (Y.o H 1 rfl rfl) <| OPS.call (d := some 27) rfl rfl rfl (EvC.func (fun_run rfl)) (boundNetwork2 (C := C) (D := D) (tm := tm) Ac Ab At cs bs rs kc kb kt cp C.sum D.sum w (hT.below H.below) hK hC hD htm) ?_
  rintro _ w ⟨A, cap, LA, rfl, hA, Hc⟩
  refine ⟨_, rfl, ?_⟩
  replace H := SH.call (Lv := []) (by rw [List.append_nil]; exact H) Hc
  clear Hc
  refine Y.al H rfl rfl ?_
  clear H; intro g4 w H
  refine Y.ss 0 H rfl (cA rfl) rfl ?_
  clear H; intro w H
  refine Y.z <| Y.qr <| Y.v (Y.o H 0 rfl rfl) <| Y.fa rfl rfl <| Y.j H 0 rfl rfl rfl <| Y.v (Y.s rfl rfl) <| Y.fa rfl rfl <| Y.j H 2 rfl rfl rfl ?_
  have hcheap := Calls.mono (netCheap hX A cap w (hA.at H (List.sublist_append_right [_, _, _] _))) fun _ _ h => h.1 hHall
  refine OPS.call (d := some 35) rfl rfl rfl (EvC.func (fun_run rfl)) (hcheap) ?_
  rintro _ w ⟨rfl, hb⟩
  refine ⟨_, rfl, ?_⟩
  replace H := H.toBelow hb; clear hb
  refine Y.v (Ev.mvT rfl) <| Y.v (Ev.extract rfl rfl) <| Y.v (Ev.extract rfl rfl) <| Y.al H rfl rfl ?_
  clear H; intro g5 w H
  refine Y.ss 0 H rfl (cA rfl) rfl ?_
  clear H; intro w H
  refine Y.b rfl <| Y.z <| Y.q <| Y.qr <| Y.a rfl <| Y.v (Ev.neq rfl rfl) <| Y.z ?_
  refine WP.cond rfl (fun hc5 => ?_) (fun hc5 => ?_)
  ·refine Y.qr <| Y.v (Ev.build (bld_40_ (e := fun _ => .int .i64 0))) <| Y.ss 2 H rfl (cA rfl) rfl ?_
   clear H; intro w H
   refine Y.b rfl <| Y.z ?_
   refine WP.ret ⟨[_, _], ⟨(by exact resCellA 2 H rfl (agg_run rfl) (size_run rfl) (by rfl) rfl), rfl, trivial⟩, ?_⟩
   exact ⟨fun h => absurd hem (by rw [h]; simp), fun _ _ => ⟨rfl, H.below⟩, fun _ h => absurd h hHall⟩
  refine Y.k <| Y.q ?_
  exact absurd hc5 (by decide)
end Go.Proofs.YthobaaefdehoiaaGreat

/-
 Walk: Find, numbers.
-/
set_option linter.all false
namespace Go.Proofs.YthobaaefdehoiaaGreat
open Go Go.W Go.RowKit
theorem timL_at {m : Nat} {l : List Edg} {ns : List Need} {j k : Nat} {x : Int} (h : Flo.tmAt (timL m l ns) j k = some x) : ∃ (hj : j < (colN ns).length) (hk : k < (briN ns).length), x = roadT m l (colN ns)[j].node.toNat (briN ns)[k].node.toNat := by
 unfold Flo.tmAt timL at h
 rw [List.getElem?_map] at h
 cases hj : (colN ns)[j]? with
 | none => rw [hj] at h; simp at h
 | some a =>
  rw [hj] at h
  simp only [Option.map_some, Option.bind_some, List.getElem?_map] at h
  cases hk : (briN ns)[k]? with
  | none => rw [hk] at h; simp at h
  | some b =>
   rw [hk] at h
   simp at h
   obtain ⟨h1, h2⟩ := List.getElem?_eq_some_iff.1 hj
   obtain ⟨h3, h4⟩ := List.getElem?_eq_some_iff.1 hk
   exact ⟨h1, h3, by rw [← h, h2, h4]⟩
theorem timL_some {m : Nat} {l : List Edg} {ns : List Need} {j k : Nat} (hj : j < (colN ns).length) (hk : k < (briN ns).length) : Flo.tmAt (timL m l ns) j k = some (roadT m l (colN ns)[j].node.toNat (briN ns)[k].node.toNat) := by
 unfold Flo.tmAt timL
 simp [hj, hk]
theorem trans_ok {m : Nat} {l : List Edg} {ts : List Truck} {ns : List Need} {hd : Int} (hK : NightOk m l ts ns hd) : Flo.Trans (movC ns) (movD ns) (timL m l ns) := by
 have hl1 : (colN ns).length ≤ ns.length := List.length_filter_le _ _
 have hl2 : (briN ns).length ≤ ns.length := List.length_filter_le _ _
 have hnl := hK.nl
 have hcl : (movC ns).length = (colN ns).length := by simp [movC]
 have hdl : (movD ns).length = (briN ns).length := by simp [movD]
 have hdb : ∀ d ∈ movD ns, 1 ≤ d ∧ d ≤ 32 := fun d hd => by
  obtain ⟨y, hy, rfl⟩ := List.mem_map.1 hd
  obtain ⟨h1, h2⟩ := List.mem_filter.1 hy
  have := hK.nd y h1
  simp at h2; omega
 refine ⟨⟨by simp [timL, movC], fun j k x hx => ?_, fun d hd => by have := hdb d hd; omega⟩, fun c hc => ?_, hdb, by omega, by omega, fun j k x hx => ?_, fun j k hj hk => ⟨_, timL_some (by omega) (by omega)⟩⟩
 ·obtain ⟨h1, h2, _⟩ := timL_at hx; omega
 ·obtain ⟨y, hy, rfl⟩ := List.mem_map.1 hc
  obtain ⟨h1, h2⟩ := List.mem_filter.1 hy
  have := hK.nd y h1
  simp at h2; omega
 ·obtain ⟨h1, h2, rfl⟩ := timL_at hx
  have a1 := hK.nd (colN ns)[j] (List.mem_filter.1 (List.getElem_mem h1)).1
  have a2 := hK.nd (briN ns)[k] (List.mem_filter.1 (List.getElem_mem h2)).1
  exact roadT_bd hK.road (by omega) (by omega)
theorem task_ok {m : Nat} {l : List Edg} {ts : List Truck} {ns : List Need} {hd : Int} {rs : List (SlA Int)} (hK : NightOk m l ts ns hd) (hr : rs.map (·.l) = timL m l ns) : TaskOk (colN ns) (briN ns) rs := by
 have hl1 : (colN ns).length ≤ ns.length := List.length_filter_le _ _
 have hl2 : (briN ns).length ≤ ns.length := List.length_filter_le _ _
 have hnl := hK.nl
 refine ⟨by omega, by omega, ?_, fun r h => ?_, fun x hx => ?_, fun x hx => ?_⟩
 ·have := congrArg List.length hr
  simpa [timL] using this
 ·have : r.l ∈ timL m l ns := by rw [← hr]; exact List.mem_map_of_mem h
  obtain ⟨y, _, hy⟩ := List.mem_map.1 this
  rw [← hy]; simp
 ·have := hK.nd x (List.mem_filter.1 hx).1; omega
 ·have := hK.nd x (List.mem_filter.1 hx).1; omega
theorem capL_bd {m : Nat} {l : List Edg} {ts : List Truck} {ns : List Need} {hd : Int} (hK : NightOk m l ts ns hd) : 0 ≤ capL ts ∧ capL ts ≤ 32 := by
 have h : ∀ j, j ≤ ts.length → 0 ≤ capL (ts.take j) ∧ capL (ts.take j) ≤ 32 := fun j => by
  induction j with
  | zero => intro _; simp [capL]
  | succ j ih =>
   intro hj
   have := ih (by omega)
   have := hK.tr ts[j] (List.getElem_mem (by omega))
   rw [capL_take (show j < ts.length by omega)]
   split <;> omega
 have := h ts.length (Nat.le_refl _)
 rwa [List.take_length] at this
open Classical in
noncomputable def solveErr (cp : Int) (C D : List Int) (tm : List (List Int)) : Int := if emptyB cp C.sum D.sum = true then 10 else if Flo.Hall C D tm then 0 else 15
theorem boundSolveU {C D : List Int} {tm : List (List Int)} (Ac Ab At : Option Addr) (cs bs : List Need) (rs : List (SlA Int)) (kc kb kt : Nat) (cp : Int) (w0 : World) (hT : TaskAt w0 Ac Ab At cs bs rs) (hK : TaskOk cs bs rs) (hC : C = cs.map (·.move)) (hD : D = bs.map fun x => -x.move) (htm : tm = rs.map (·.l)) (hX : Flo.Trans C D tm) (hcp : 0 ≤ cp ∧ cp ≤ 32) :
  Calls Tryz.prog 25 #[.agg (tskC Ac Ab At cs.length bs.length rs.length kc kb kt cp C.sum D.sum).toArray] w0 fun e w' => ∃ (s b : Int) (us vs : List Int) (AU AV : Option Addr) (cu cv : Nat) (L : List Blk),
   e = .returned (.tuple #[.agg (bndL s b AU us.length cu AV vs.length cv).toArray, I (solveErr cp C D tm)]) ∧ (solveErr cp C D tm ≠ 0 → s = 0 ∧ b = 0 ∧ us = [] ∧ vs = []) ∧ (solveErr cp C D tm = 0 → ∃ T, Flo.Solved C D tm us vs T ∧ s = divI T cp ∧ b = D.sum ∧ 1 ≤ cp) ∧ Reads L (fun w => IntsAt w AU us ∧ IntsAt w AV vs) ∧ SH w0 [] w' L :=
 (boundSolve Ac Ab At cs bs rs kc kb kt cp w0 hT hK hC hD htm hX hcp).mono fun e w' ⟨h1, h2, h3⟩ => by
  cases he : emptyB cp C.sum D.sum with
  | true =>
   obtain ⟨rfl, hb⟩ := h1 he
   have hs : solveErr cp C D tm = 10 := by rw [solveErr, if_pos he]
   exact ⟨0, 0, [], [], none, none, 0, 0, [], by rw [hs]; rfl, fun _ => ⟨rfl, rfl, rfl, rfl⟩, (fun h => by rw [hs] at h; cases h), fun _ _ _ _ => ⟨OnesAt.nil, OnesAt.nil⟩, (SH.refl w0).toBelow hb⟩
  | false =>
   by_cases hH : Flo.Hall C D tm
   ·obtain ⟨us, vs, T, AU, AV, cu, cv, L, g1, rfl, g2, g3⟩ := h3 he hH
    have hs : solveErr cp C D tm = 0 := by rw [solveErr, if_neg (by rw [he]; simp), if_pos hH]
    refine ⟨divI T cp, D.sum, us, vs, AU, AV, cu, cv, L, by rw [hs], fun h => absurd hs h, fun _ => ⟨T, g1, rfl, rfl, ?_⟩, g2, g3⟩
    simp [emptyB] at he; omega
   ·obtain ⟨rfl, hb⟩ := h2 he hH
    have hs : solveErr cp C D tm = 15 := by rw [solveErr, if_neg (by rw [he]; simp), if_neg hH]
    exact ⟨0, 0, [], [], none, none, 0, 0, [], by rw [hs]; rfl, fun _ => ⟨rfl, rfl, rfl, rfl⟩, (fun h => by rw [hs] at h; cases h), fun _ _ _ _ => ⟨OnesAt.nil, OnesAt.nil⟩, (SH.refl w0).toBelow hb⟩
noncomputable def findErr (n : Int) (l : List Edg) (ts : List Truck) (ns : List Need) (hd : Int) : Int := if nightErr n l ts ns hd ≠ 0 then nightErr n l ts ns hd else solveErr (capL ts) (movC ns) (movD ns) (timL n.toNat l ns)
structure FindRet (n : Int) (l : List Edg) (ts : List Truck) (ns : List Need) (hd s b : Int) (us vs : List Int) : Prop where
 bad : findErr n l ts ns hd ≠ 0 → s = 0 ∧ b = 0 ∧ us = [] ∧ vs = []
 good : findErr n l ts ns hd = 0 → ∃ (m : Nat) (T : Int), n = m ∧ NightOk m l ts ns hd ∧ Flo.Solved (movC ns) (movD ns) (timL m l ns) us vs T ∧ s = divI T (capL ts) ∧ b = (movD ns).sum ∧ 1 ≤ capL ts
set_option maxHeartbeats 1000000 in
theorem boundFind (n hd : Int) (A B C : Option Addr) (l : List Edg) (ts : List Truck) (ns : List Need) (ca cb cc : Nat) (w0 : World) (hN : NightAt w0 A B C l ts ns cc) :
  Calls Tryz.prog 8 #[.agg #[I n, .slice A l.length ca, .slice B ts.length cb, .slice C ns.length cc, I hd]] w0 fun e w' => ∃ (s b : Int) (us vs : List Int) (AU AV : Option Addr) (cu cv : Nat) (L : List Blk),
   e = .returned (.tuple #[.agg (bndL s b AU us.length cu AV vs.length cv).toArray, I (findErr n l ts ns hd)]) ∧ FindRet n l ts ns hd s b us vs ∧ Reads L (fun w => IntsAt w AU us ∧ IntsAt w AV vs) ∧ SH w0 [] w' L := by
 have H := SH.refl w0
 by_cases h0 : nightErr n l ts ns hd = 0
 ·obtain ⟨m, rfl, hK⟩ := nightOk_of h0
  have hX := trans_ok hK
  have hcb := capL_bd hK
  have hfe : findErr m l ts ns hd = solveErr (capL ts) (movC ns) (movD ns) (timL m l ns) := by rw [findErr, if_neg (by simp [h0])]; simp
  refine Calls.ofWPc Tryz.func8 rfl Tryz.results8 Tryz.ntmps8 rfl <| Y.qr <| Y.bx (cA rfl) H ?_
  clear H; intro g1 w H
  refine Y.al H rfl rfl ?_
  clear H; intro g2 w H
  refine Y.b rfl <| Y.z <| Y.qr <| Y.v (Y.o H 1 rfl rfl) <| OPS.call (d := some 8) rfl rfl rfl (EvC.func (fun_run rfl)) (Calls.mono (boundRead m hd A B C l ts ns ca cb cc w (hN.sh H)) fun _ _ h => h.2 h0) ?_
  rintro _ w ⟨m2, Ac, Ab, At, rs, kc, kb, kt, LT, hm2, hrs, hT, rfl, Hc⟩
  refine ⟨_, rfl, ?_⟩
  replace H := SH.call (Lv := []) (by rw [List.append_nil]; exact H) Hc
  clear Hc
  obtain rfl : m = m2 := by omega
  have hTK := task_ok hK hrs
  refine Y.v (Ev.mvT rfl) <| Y.v (Ev.extract rfl rfl) <| Y.v (Ev.extract rfl rfl) <| Y.al H rfl rfl ?_
  clear H; intro g4 w H
  refine Y.ss 0 H rfl (cA rfl) rfl ?_
  clear H; intro w H
  refine Y.b rfl <| Y.z <| Y.q <| Y.qr <| Y.a rfl <| Y.v (Ev.neq rfl rfl) <| Y.z ?_
  refine WP.cond rfl (fun hc2 => ?_) (fun hc2 => ?_)
  ·refine Y.qr <| Y.v (Ev.build (bld_40_ (e := fun _ => .int .i64 0))) <| Y.a rfl <| Y.ss 1 H rfl (cA rfl) rfl ?_
   clear H; intro w H
   refine Y.b rfl <| Y.z ?_
   refine WP.ret ⟨[_, _], ⟨(by exact resCellA 1 H rfl (agg_run rfl) (size_run rfl) (by rfl) rfl), rfl, trivial⟩, ?_⟩
   exact absurd hc2 (by decide)
  refine Y.k <| Y.q ?_
  simp only [List.cons_append, List.nil_append] at H
  refine Y.r <| Y.v (Y.o H 0 rfl rfl) <| OPS.call (d := some 16) rfl rfl rfl (EvC.func (fun_run rfl)) (boundSolveU (C := movC ns) (D := movD ns) (tm := timL m l ns) Ac Ab At (colN ns) (briN ns) rs kc kb kt (capL ts) w (hT.at H (List.sublist_append_right [_, _, _] _)) hTK rfl rfl hrs.symm hX hcb) ?_
  rintro _ w ⟨s, b, us, vs, AU, AV, cu, cv, L, rfl, hbad, hgood, hrd, Hc⟩
  refine ⟨_, rfl, ?_⟩
  replace H := SH.call (Lv := []) (by rw [List.append_nil]; exact H) Hc
  clear Hc
  simp only [List.cons_append, List.nil_append] at H
  rw [← hfe]
  refine Y.v (Ev.extract rfl rfl) <| Y.v (Ev.extract rfl rfl) <| Y.ss 1 H rfl (cA rfl) rfl ?_
  clear H; intro w H
  refine Y.b rfl <| Y.z ?_
  refine WP.ret ⟨[_, _], ⟨(by exact resCellA 1 H rfl (agg_run rfl) (size_run rfl) (by rfl) rfl), rfl, trivial⟩, ?_⟩
  refine ⟨s, b, us, vs, AU, AV, cu, cv, L, rfl, ⟨fun h => hbad (by rw [← hfe]; exact h), fun h => ?_⟩, hrd, ?_⟩
  ·obtain ⟨T, q1, q2, q3, q4⟩ := hgood (by rw [← hfe]; exact h)
   exact ⟨m, T, rfl, hK, q1, q2, q3, q4⟩
  ·exact H.drop (List.Sublist.cons _ (List.Sublist.cons _ (List.Sublist.cons _ (List.sublist_append_right LT L))))
 ·have hfe : findErr n l ts ns hd = nightErr n l ts ns hd := by rw [findErr, if_pos h0]
  have h0' := h0
  refine Calls.ofWPc Tryz.func8 rfl Tryz.results8 Tryz.ntmps8 rfl <| Y.qr <| Y.bx (cA rfl) H ?_
  clear H; intro g1 w H
  refine Y.al H rfl rfl ?_
  clear H; intro g2 w H
  refine Y.b rfl <| Y.z <| Y.qr <| Y.v (Y.o H 1 rfl rfl) <| OPS.call (d := some 8) rfl rfl rfl (EvC.func (fun_run rfl)) (Calls.mono (boundRead n hd A B C l ts ns ca cb cc w (hN.sh H)) fun _ _ h => h.1 h0) ?_
  rintro _ w ⟨rfl, hb⟩
  refine ⟨_, rfl, ?_⟩
  replace H := H.toBelow hb; clear hb
  refine Y.v (Ev.mvT rfl) <| Y.v (Ev.extract rfl rfl) <| Y.v (Ev.extract rfl rfl) <| Y.al H rfl rfl ?_
  clear H; intro g4 w H
  refine Y.ss 0 H rfl (cA rfl) rfl ?_
  clear H; intro w H
  refine Y.b rfl <| Y.z <| Y.q <| Y.qr <| Y.a rfl <| Y.v (Ev.neq rfl rfl) <| Y.z ?_
  refine WP.cond rfl (fun hc2 => ?_) (fun hc2 => ?_)
  ·refine Y.qr <| Y.v (Ev.build (bld_40_ (e := fun _ => .int .i64 0))) <| Y.a rfl <| Y.ss 1 H rfl (cA rfl) rfl ?_
   clear H; intro w H
   refine Y.b rfl <| Y.z ?_
   refine WP.ret ⟨[_, _], ⟨(by exact resCellA 1 H rfl (agg_run rfl) (size_run rfl) (by rfl) rfl), rfl, trivial⟩, ?_⟩
   exact ⟨0, 0, [], [], none, none, 0, 0, [], by rw [hfe]; rfl, ⟨fun _ => ⟨rfl, rfl, rfl, rfl⟩, fun h => absurd (hfe ▸ h) h0⟩, fun _ _ _ _ => ⟨OnesAt.nil, OnesAt.nil⟩, H.drop (List.nil_sublist _)⟩
  refine Y.k <| Y.q ?_
  exact absurd hc2 (by simp [h0])
end Go.Proofs.YthobaaefdehoiaaGreat

/-
 Walk: numbers, Proved.
-/
set_option linter.all false
namespace Go.Proofs.YthobaaefdehoiaaGreat
open Go Go.W Go.RowKit
def rngB (l : List Int) : Bool := l.all fun x => decide (0 ≤ x) && decide (x ≤ 1125899906842624)
theorem boundNumbers (A : Option Addr) (l : List Int) (cap k : Nat) (w0 : World) (hz : IntsAt w0 A l) (hl : l.length ≤ 1000) :
  Calls Tryz.prog 29 #[.slice A l.length cap, I k] w0 fun e w' => e = .returned (.bool (rngB l && decide (l.length = k))) ∧ Below w0.heap.size w0 w' := by
 have H := SH.refl w0
 refine Calls.ofWP Tryz.func29 rfl Tryz.results29 Tryz.ntmps29 rfl <| Y.qr <| Y.v (Ev.asB rfl) <| Y.z <| Y.q <| Y.qr <| Y.v (Ev.mvS rfl) <| Y.v (Y.n rfl) <| Y.a rfl <| Y.z <| WP.block <| WP.loop [4, 6, 9, 10, 11, 12, 13, 14, 15, 16, 17, 18, 19] (fun k e w' => ∃ j : Nat, j + k = l.length ∧ e 9 = I j ∧ (∀ i (hi : i < l.length), i < j → 0 ≤ l[i] ∧ l[i] ≤ 1125899906842624) ∧ SH w0 [] w' []) (l.length) (⟨0, by omega, rfl, (fun i _ h => absurd h (by omega)), H⟩) ?_
 clear H
 rintro q u w ⟨j, hq, h9, hall, H⟩
 refine WP.know (t := 9) h9 <| Y.qr <| Y.v (Ev.lss rfl rfl) <| Y.z <| Y.q ?_
 refine WP.cond rfl (fun hc2 => ?_) (fun hc2 => ?_)
 ·have hlt : j < l.length := by simpa using hc2
  obtain ⟨b, o, rfl, hx⟩ := hz j hlt
  refine Y.k <| Y.q <| WP.block <| Y.qr <| Y.v (Y.x rfl rfl rfl rfl) <| Y.v (Y.c (H.ld0 (by assumption)) rfl) ?_
  refine Y.b rfl <| Y.z <| Y.qr <| Y.a rfl <| Y.v (Ev.lss rfl rfl) <| Y.v (Ev.mvB rfl) <| Y.g rfl rfl (fun hg => Y.m rfl) <| Y.g rfl rfl (fun hg => Ev.gtr (gvE hg rfl) rfl) <| Y.v (Ev.pickOr rfl rfl rfl) <| Y.z ?_
  refine WP.cond rfl (fun hc4 => ?_) (fun hc4 => ?_)
  ·refine Y.qr <| Y.v (Ev.asB rfl) <| Y.z ?_
   refine WP.ret ⟨_, rfl, ?_⟩
   have hb : ¬ (0 ≤ l[j] ∧ l[j] ≤ 1125899906842624) := by simp at hc4; omega
   have : rngB l = false := by
    unfold rngB; rw [List.all_eq_false]
    exact ⟨l[j], List.getElem_mem hlt, by simpa using fun h => Int.not_le.1 fun h2 => hb ⟨h, h2⟩⟩
   exact ⟨by rw [this]; rfl, H.below⟩
  refine Y.k <| Y.r <| Y.v (Y.p rfl rfl) <| Y.a rfl <| Y.z ?_
  have hb : 0 ≤ l[j] ∧ l[j] ≤ 1125899906842624 := by simp at hc4; omega
  refine ⟨Y.ag, q - 1, by omega, j + 1, by omega, rfl, fun i hi hij => ?_, H⟩
  rcases Nat.lt_succ_iff_lt_or_eq.1 hij with h | rfl
  ·exact hall i hi h
  ·exact hb
 refine WP.exit <| XB.hit <| Y.qr <| Y.v (Ev.mvS rfl) <| Y.v (Y.n rfl) <| Y.a rfl <| Y.v (Ev.eql rfl rfl) <| Y.v (Ev.asB rfl) <| Y.z ?_
 refine WP.ret ⟨_, rfl, ?_⟩
 have hj : j = l.length := by simp at hc2; omega
 have : rngB l = true := by
  unfold rngB; rw [List.all_eq_true]
  intro x hx
  obtain ⟨i, hi, rfl⟩ := List.mem_iff_getElem.1 hx
  have := hall i hi (by omega)
  simp [this]
 have e : decide ((l.length : Int) = k) = decide (l.length = k) := decide_eq_decide.2 (by omega)
 exact ⟨by rw [this, Bool.true_and, ← e]; rfl, H.below⟩
theorem rngB_at {l : List Int} (h : rngB l = true) (j : Nat) : 0 ≤ l.getD j 0 ∧ l.getD j 0 ≤ 1125899906842624 := by
 by_cases hj : j < l.length
 ·have h2 := List.all_eq_true.1 h l[j] (List.getElem_mem hj)
  have e : l.getD j 0 = l[j] := by simp [hj]
  rw [e]
  simp only [Bool.and_eq_true, decide_eq_true_eq] at h2
  exact h2
 ·simp [hj]
theorem dn_app : ∀ (D : List Int) (d : Int) (v : Nat → Int), Flo.dn (D ++ [d]) v = Flo.dn D v + d * v D.length
 | [], d, v => by simp [Flo.dn]
 | e :: D, d, v => by
  simp only [List.cons_append, Flo.dn, dn_app D d (fun k => v (k + 1)), List.length_cons]; omega
theorem dn_take {D : List Int} {v : Nat → Int} {j : Nat} (h : j < D.length) : Flo.dn (D.take (j + 1)) v = Flo.dn (D.take j) v + D[j] * v j := by
 rw [List.take_succ_eq_append_getElem h, dn_app, show (D.take j).length = j by simp; omega]
theorem prodB {a b : Int} (ha : 0 ≤ a ∧ a ≤ 32) (hb : 0 ≤ b ∧ b ≤ 1125899906842624) : 0 ≤ a * b ∧ a * b ≤ 36028797018963968 := by
 refine ⟨Int.mul_nonneg ha.1 hb.1, ?_⟩
 have h1 : a * b ≤ 32 * b := Int.mul_le_mul_of_nonneg_right ha.2 hb.1
 generalize a * b = c at *
 omega
structure ProvedP (n : Int) (l : List Edg) (ts : List Truck) (ns : List Need) (hd s b : Int) (us vs : List Int) : Prop where
 err : findErr n l ts ns hd = 0
 bk : b = (movD ns).sum
 un : rngB us = true ∧ us.length = (colN ns).length
 vn : rngB vs = true ∧ vs.length = (briN ns).length
 feas : Flo.Feas 1 (timL n.toNat l ns) (fun j => us.getD j 0) (fun k => vs.getD k 0)
 secs : s = divI (Flo.dn (movD ns) (fun k => vs.getD k 0) - Flo.dn (movC ns) (fun j => us.getD j 0)) (capL ts)
theorem getDx {l : List Int} {j : Nat} (h : j < l.length) : l[j] = l.getD j 0 := by simp [h]
set_option maxRecDepth 20000 in
set_option maxHeartbeats 4000000 in
theorem boundProved (n hd s b : Int) (A B C AU AV : Option Addr) (l : List Edg) (ts : List Truck) (ns : List Need) (us vs : List Int) (ca cb cc cu cv : Nat) (w0 : World) (hN : NightAt w0 A B C l ts ns cc) (hU : IntsAt w0 AU us) (hV : IntsAt w0 AV vs) (hul : us.length ≤ 1000) (hvl : vs.length ≤ 1000) :
  Calls Tryz.prog 10 #[.agg #[I n, .slice A l.length ca, .slice B ts.length cb, .slice C ns.length cc, I hd], .agg (bndL s b AU us.length cu AV vs.length cv).toArray] w0 fun e w' => ∃ r : Bool, e = .returned (.bool r) ∧ (r = true ↔ ProvedP n l ts ns hd s b us vs) ∧ Below w0.heap.size w0 w' := by
 have H := SH.refl w0
 by_cases h0 : nightErr n l ts ns hd = 0
 ·obtain ⟨m, rfl, hK⟩ := nightOk_of h0
  have hX := trans_ok hK
  have hcb := capL_bd hK
  have hfe : findErr m l ts ns hd = solveErr (capL ts) (movC ns) (movD ns) (timL m l ns) := by rw [findErr, if_neg (by simp [h0])]; simp
  refine Calls.ofWP Tryz.func10 rfl Tryz.results10 Tryz.ntmps10 rfl <| Y.qr <| Y.bx (cA rfl) H ?_
  clear H; intro g2 w H
  refine Y.bx (cA rfl) H ?_
  clear H; intro g3 w H
  refine Y.v (Ev.asB rfl) <| Y.z <| Y.qr <| Y.v (Y.o H 1 rfl rfl) <| OPS.call (d := some 18) rfl rfl rfl (EvC.func (fun_run rfl)) (Calls.mono (boundRead m hd A B C l ts ns ca cb cc w (hN.sh H)) fun _ _ h => h.2 h0) ?_
  rintro _ w ⟨m2, Ac, Ab, At, rs, kc, kb, kt, LT, hm2, hrs, hT, rfl, Hc⟩
  refine ⟨_, rfl, ?_⟩
  replace H := SH.call (Lv := []) (by rw [List.append_nil]; exact H) Hc
  clear Hc
  obtain rfl : m = m2 := by omega
  have hTK := task_ok hK hrs
  refine Y.v (Ev.mvT rfl) <| Y.v (Ev.extract rfl rfl) <| Y.v (Ev.extract rfl rfl) <| Y.al H rfl rfl ?_
  clear H; intro g5 w H
  refine Y.ss 0 H rfl (cA rfl) rfl ?_
  clear H; intro w H
  refine Y.b rfl <| Y.z <| Y.q <| Y.qr <| Y.a rfl <| Y.v (Ev.neq rfl rfl) <| Y.z ?_
  refine WP.cond rfl (fun hc2 => ?_) (fun hc2 => ?_)
  ·refine Y.qr <| Y.v (Ev.asB rfl) <| Y.z ?_
   refine WP.ret ⟨_, rfl, ?_⟩
   exact absurd hc2 (by decide)
  refine Y.k <| Y.q <| Y.qr <| Y.v (Y.o H 0 rfl rfl) <| OPS.call (d := some 25) rfl rfl rfl (EvC.func (fun_run rfl)) (boundSolveU (C := movC ns) (D := movD ns) (tm := timL m l ns) Ac Ab At (colN ns) (briN ns) rs kc kb kt (capL ts) w (hT.at H (List.sublist_append_right [_, _, _] _)) hTK rfl rfl hrs.symm hX hcb) ?_
  rintro _ w ⟨s2, b2, us2, vs2, AU2, AV2, cu2, cv2, L2, rfl, hbad, hgood, hrd, Hc⟩
  refine ⟨_, rfl, ?_⟩
  replace H := H.toBelow Hc.below
  clear Hc
  refine Y.v (Ev.mvT rfl) <| Y.v (Ev.extract rfl rfl) <| Y.v (Ev.extract rfl rfl) <| Y.al H rfl rfl ?_
  clear H; intro g7 w H
  refine Y.ss 0 H rfl (cA rfl) rfl ?_
  clear H; intro w H
  refine Y.b rfl <| Y.z <| Y.qr <| Y.a rfl <| Y.v (Ev.neq rfl rfl) <| Y.v (Ev.mvB rfl) <| Y.g rfl rfl (fun hg => Y.f rfl rfl) <| Y.y rfl rfl H 2 (fun hg => gvE hg rfl) rfl rfl <| Y.g rfl rfl (fun hg => Y.f rfl rfl) <| Y.y rfl rfl H 1 (fun hg => gvE hg rfl) rfl rfl <| Y.g rfl rfl (fun hg => Ev.neq (gvE hg rfl) (gvE hg rfl)) <| Y.v (Ev.pickOr rfl rfl rfl) <| Y.v (Ev.mvB rfl) <| Y.g rfl rfl (fun hg => Y.f rfl rfl) <| Y.y rfl rfl H 2 (fun hg => gvE hg rfl) rfl rfl <| Y.g rfl rfl (fun hg => Y.f rfl rfl) <| Y.y rfl rfl H 1 (fun hg => gvE hg rfl) rfl rfl <| Y.g rfl rfl (fun hg => Ev.len (el_run rfl) (gvE hg rfl)) <| OPS.gcall0 (f := 29) (boundNumbers AU us cu (colN ns).length w (hU.sh H) hul) (fun _ _ h => h) rfl rfl rfl rfl rfl (fun hg => EvC.conv (EvC.func (fun_run rfl)) (l2 (gvE hg rfl) (gvE hg rfl))) ?_
  intro w hbc; replace H := H.toBelow hbc
  refine Y.g rfl rfl (fun hg => Ev.not (gvE hg rfl)) <| Y.v (Ev.pickOr rfl rfl rfl) <| Y.v (Ev.mvB rfl) <| Y.g rfl rfl (fun hg => Y.f rfl rfl) <| Y.y rfl rfl H 2 (fun hg => gvE hg rfl) rfl rfl <| Y.g rfl rfl (fun hg => Y.f rfl rfl) <| Y.y rfl rfl H 1 (fun hg => gvE hg rfl) rfl rfl <| Y.g rfl rfl (fun hg => Ev.len (el_run rfl) (gvE hg rfl)) <| OPS.gcall0 (f := 29) (boundNumbers AV vs cv (briN ns).length w (hV.sh H) hvl) (fun _ _ h => h) rfl rfl rfl rfl rfl (fun hg => EvC.conv (EvC.func (fun_run rfl)) (l2 (gvE hg rfl) (gvE hg rfl))) ?_
  intro w hbc; replace H := H.toBelow hbc
  refine Y.g rfl rfl (fun hg => Ev.not (gvE hg rfl)) <| Y.v (Ev.pickOr rfl rfl rfl) <| Y.z ?_
  refine WP.cond rfl (fun hc5 => ?_) (fun hc5 => ?_)
  ·refine Y.qr <| Y.v (Ev.asB rfl) <| Y.z ?_
   refine WP.ret ⟨_, rfl, ?_⟩
   refine ⟨false, rfl, ⟨(fun h => by cases h), fun hp => ?_⟩, H.below⟩
   rw [← hfe, hp.err, hp.bk, hp.un.1, hp.un.2, hp.vn.1, hp.vn.2] at hc5
   simp at hc5
  obtain ⟨⟨⟨q1, q2⟩, q3, q4⟩, q5, q6⟩ : ((solveErr (capL ts) (movC ns) (movD ns) (timL m l ns) = 0 ∧ b = (movD ns).sum) ∧ rngB us = true ∧ us.length = (colN ns).length) ∧ rngB vs = true ∧ vs.length = (briN ns).length := by simpa using hc5
  obtain ⟨T, hsol, _, _, hcp1⟩ := hgood q1
  clear hgood hbad hrd
  have hl1 : (colN ns).length ≤ ns.length := List.length_filter_le _ _
  have hl2 : (briN ns).length ≤ ns.length := List.length_filter_le _ _
  have hnl := hK.nl
  have hCl : (movC ns).length = (colN ns).length := by simp [movC]
  have hDl : (movD ns).length = (briN ns).length := by simp [movD]
  have hrl := hTK.rl
  have hub := rngB_at q3
  have hvb := rngB_at q5
  have hLT : ∀ w, SH w0 [] w ([⟨g7, 40, bndL s2 b2 AU2 us2.length cu2 AV2 vs2.length cv2⟩, ⟨g5, 72, tskC Ac Ab At (colN ns).length (briN ns).length rs.length kc kb kt (capL ts) (movC ns).sum (movD ns).sum⟩, ⟨g3, 40, bndL s b AU us.length cu AV vs.length cv⟩, ⟨g2, 28, [I m, .slice A l.length ca, .slice B ts.length cb, .slice C ns.length cc, I hd]⟩] ++ LT) → TaskAt w Ac Ab At (colN ns) (briN ns) rs := fun w H => hT.at H (List.sublist_append_right _ _)
  obtain ⟨u, hu⟩ : ∃ u : Nat → Int, u = fun j => us.getD j 0 := ⟨_, rfl⟩
  obtain ⟨v, hv⟩ : ∃ v : Nat → Int, v = fun j => vs.getD j 0 := ⟨_, rfl⟩
  have hub2 : ∀ j, 0 ≤ u j ∧ u j ≤ 1125899906842624 := fun j => by rw [hu]; exact hub j
  have hvb2 : ∀ j, 0 ≤ v j ∧ v j ≤ 1125899906842624 := fun j => by rw [hv]; exact hvb j
  have hug : ∀ j (h : j < us.length), us[j] = u j := fun j h => by rw [hu]; exact getDx h
  have hvg : ∀ j (h : j < vs.length), vs[j] = v j := fun j h => by rw [hv]; exact getDx h
  have hno : ∀ w, SH w0 [] w ([⟨g7, 40, bndL s2 b2 AU2 us2.length cu2 AV2 vs2.length cv2⟩, ⟨g5, 72, tskC Ac Ab At (colN ns).length (briN ns).length rs.length kc kb kt (capL ts) (movC ns).sum (movD ns).sum⟩, ⟨g3, 40, bndL s b AU us.length cu AV vs.length cv⟩, ⟨g2, 28, [I m, .slice A l.length ca, .slice B ts.length cb, .slice C ns.length cc, I hd]⟩] ++ LT) → (¬ Flo.Feas 1 (timL m l ns) u v) → ∃ r : Bool, Ending.returned (Bo false) = .returned (.bool r) ∧ (r = true ↔ ProvedP m l ts ns hd s b us vs) ∧ Below w0.heap.size w0 w := fun w H hn =>
   ⟨false, rfl, ⟨(fun h => by cases h), fun hp => absurd (by have := hp.feas; rw [hu, hv]; simpa using this) hn⟩, H.below⟩
  replace H : SH w0 [] w ([⟨g7, 40, bndL s2 b2 AU2 us2.length cu2 AV2 vs2.length cv2⟩, ⟨g5, 72, tskC Ac Ab At (colN ns).length (briN ns).length rs.length kc kb kt (capL ts) (movC ns).sum (movD ns).sum⟩, ⟨g3, 40, bndL s b AU us.length cu AV vs.length cv⟩, ⟨g2, 28, [I m, .slice A l.length ca, .slice B ts.length cb, .slice C ns.length cc, I hd]⟩] ++ LT) := H
  refine Y.k <| Y.qr <| Y.b rfl <| Y.z <| Y.q <| Y.qr <| Y.fa rfl rfl <| Y.j H 1 rfl rfl rfl <| Y.v (Y.n rfl) <| Y.a rfl <| Y.z <| WP.block <| WP.loop [4, 9, 10, 11, 12, 13, 58, 59, 60, 61, 62, 63, 64, 65, 66, 67, 68, 69, 70, 71, 72, 73, 74, 75, 76, 77, 78, 79, 80, 81, 82, 83, 84, 85, 86, 87, 88, 89, 90, 91, 92, 93, 94, 95, 96, 97, 98, 99, 100, 101, 102] (fun k e w' => ∃ (j : Nat) (sm : Int), j + k = (colN ns).length ∧ e 58 = I j ∧ e 9 = I sm ∧ sm = -Flo.dn ((movC ns).take j) u ∧ (-(36028797018963968 * (j : Int)) ≤ sm ∧ sm ≤ 0) ∧ (∀ i, i < j → ∀ k x, Flo.tmAt (timL m l ns) i k = some x → 0 ≤ x → v k ≤ u i + 1 * x) ∧ SH w0 [] w' ([⟨g7, 40, bndL s2 b2 AU2 us2.length cu2 AV2 vs2.length cv2⟩, ⟨g5, 72, tskC Ac Ab At (colN ns).length (briN ns).length rs.length kc kb kt (capL ts) (movC ns).sum (movD ns).sum⟩, ⟨g3, 40, bndL s b AU us.length cu AV vs.length cv⟩, ⟨g2, 28, [I m, .slice A l.length ca, .slice B ts.length cb, .slice C ns.length cc, I hd]⟩] ++ LT)) ((colN ns).length) (⟨0, 0, by omega, rfl, rfl, rfl, by omega, (fun i h => absurd h (by omega)), H⟩) ?_
  clear H
  rintro k uu w ⟨j, sm, hk, h58, h9, hsm, hsb, hfs, H⟩
  refine WP.know (t := 58) h58 (WP.know (t := 9) h9 ?_)
  refine Y.qr <| Y.v (Ev.lss rfl rfl) <| Y.z <| Y.q ?_
  refine WP.cond rfl (fun hc9 => ?_) (fun hc9 => ?_)
  ·have hlt : j < (colN ns).length := by simpa using hc9
   obtain ⟨bu, ou, rfl, hxu⟩ := hU j (by omega)
   rw [hug j (by omega)] at hxu
   have hTt := hLT w H
   obtain ⟨b1, o1, rfl, hcn⟩ := hTt.c j hlt
   obtain ⟨nx, hnx⟩ : ∃ nx, nx = (colN ns)[j] := ⟨_, rfl⟩
   rw [← hnx] at hcn
   have hmx : 1 ≤ nx.move ∧ nx.move ≤ 32 := by
    have := hX.cb nx.move (List.mem_map.2 ⟨nx, by rw [hnx]; exact List.getElem_mem hlt, rfl⟩)
    exact this
   have hCj : (movC ns)[j]'(by omega) = nx.move := by simp [movC, hnx]
   have hpb := prodB (a := nx.move) (b := u j) (by omega) (hub2 j)
   have hdn := dn_take (D := movC ns) (v := u) (j := j) (by omega)
   rw [hCj] at hdn
   have hcom : u j * nx.move = nx.move * u j := Int.mul_comm _ _
   obtain ⟨pd, hpd⟩ : ∃ pd, pd = nx.move * u j := ⟨_, rfl⟩
   rw [← hpd] at hpb hdn hcom
   have hf1 : fits (u j * nx.move) := by rw [hcom]; unfold fits; omega
   have hf2 : fits (sm - u j * nx.move) := by rw [hcom]; unfold fits; omega
   refine Y.k <| Y.q <| WP.block <| Y.qr <| Y.a rfl <| Y.v (Y.X rfl rfl rfl rfl rfl) <| Y.v (Ev.loadN (needCells nx) (agg_run rfl) (size_run rfl) rfl hcn) <| Y.al H rfl rfl ?_
   clear H; intro g11 w H
   refine Y.b rfl <| Y.ss 0 H rfl (cA rfl) rfl ?_
   clear H; intro w H
   refine Y.z <| Y.q ?_
   unfold needCells at H
   simp only [putL, List.set_cons_zero, List.set_cons_succ] at H
   refine WP.rstill mixed (by kernel_rfl) H ?_
   clear H; intro w hbw11 H
   refine Y.a rfl <| Y.fa rfl rfl <| Y.j H 3 rfl rfl rfl <| Y.a rfl <| Y.v (Y.x rfl rfl rfl rfl) <| Y.v (Y.c (H.ld0 (by assumption)) rfl) ?_
   refine Y.fa rfl rfl <| Y.j H 0 rfl rfl rfl <| Y.v (Ev.mul rfl rfl hf1) <| Y.v (Ev.sub rfl rfl hf2) <| Y.b rfl <| OPS.nil_s <| Y.q ?_
   have hTt := hLT w (Y.d1 H)
   obtain ⟨r, hre⟩ : ∃ r, r = rs[j]'(by have := hTK.rl; omega) := ⟨_, rfl⟩
   have hrm : r ∈ rs := by rw [hre]; exact List.getElem_mem _
   have hrI := hTt.r r hrm
   have hrb := hTK.row r hrm
   obtain ⟨bt, ot, rfl, hxt⟩ := hTt.t j (by have := hTK.rl; omega)
   rw [← hre] at hxt
   have hxe : ∀ q (h : q < r.l.length), Flo.tmAt (timL m l ns) j q = some r.l[q] := fun q h => by
    have e1 : (rs.map (·.l))[j]? = some r.l := by simp [show j < rs.length by have := hTK.rl; omega, ← hre]
    rw [hrs] at e1
    unfold Flo.tmAt
    rw [e1]
    simp [h]
   clear hre
   obtain ⟨rA, rc, rl⟩ := r
   simp only [slV] at hxt hrI hrb hxe
   refine Y.r <| Y.fa rfl rfl <| Y.j H 2 rfl rfl rfl <| Y.a rfl <| Y.v (Y.x rfl rfl rfl rfl) <| Y.v (Y.c (by assumption) rfl) ?_
   refine Y.v (Y.n rfl) <| Y.a rfl <| Y.z <| WP.block <| WP.loop [4, 12, 13, 79, 80, 81, 82, 83, 84, 85, 86, 87, 88, 89, 90, 91, 92, 93, 94, 95, 96, 97, 98, 99, 100, 101] (fun k e w' => ∃ (q : Nat), q + k = rl.length ∧ e 79 = I q ∧ (∀ k x, k < q → Flo.tmAt (timL m l ns) j k = some x → 0 ≤ x → v k ≤ u j + 1 * x) ∧ SH w0 [] w' ([⟨g11, 67, [I nx.node, I nx.move]⟩, ⟨g7, 40, bndL s2 b2 AU2 us2.length cu2 AV2 vs2.length cv2⟩, ⟨g5, 72, tskC (some ⟨b1, o1, none⟩) Ab (some ⟨bt, ot, none⟩) (colN ns).length (briN ns).length rs.length kc kb kt (capL ts) (movC ns).sum (movD ns).sum⟩, ⟨g3, 40, bndL s b (some ⟨bu, ou, none⟩) us.length cu AV vs.length cv⟩, ⟨g2, 28, [I m, .slice A l.length ca, .slice B ts.length cb, .slice C ns.length cc, I hd]⟩] ++ LT)) (rl.length) (⟨0, by omega, rfl, (fun k x h => absurd h (by omega)), H⟩) ?_
   clear H hTt hcn hrI hxt
   rintro k2 uu2 w ⟨q, hk2, h79, hfq, H⟩
   refine WP.know (t := 79) h79 <| Y.qr <| Y.v (Ev.lss rfl rfl) <| Y.z <| Y.q ?_
   refine WP.cond rfl (fun hc13 => ?_) (fun hc13 => ?_)
   ·have hlt2 : q < rl.length := by simpa using hc13
    obtain ⟨bv, ov, rfl, hxv⟩ := hV q (by omega)
    rw [hvg q (by omega)] at hxv
    have hxe2 := hxe q hlt2
    obtain ⟨x, hx⟩ : ∃ x, x = rl[q] := ⟨_, rfl⟩
    rw [← hx] at hxe2
    have hxb := hX.tb j q x hxe2
    have hTt := hLT w (Y.d1 H)
    have hub3 := hub2 j
    have hvb3 := hvb2 q
    refine Y.k <| Y.q <| WP.block <| Y.q ?_
    have hrr : IntsAt w rA rl := hTt.r ⟨rA, rc, rl⟩ hrm
    obtain ⟨br, orr, rfl, hxr⟩ := hrr q hlt2
    rw [← hx] at hxr
    refine Y.r <| Y.a rfl <| Y.v (Y.x rfl rfl rfl rfl) <| Y.v (Y.c (by assumption) rfl) ?_
    refine Y.b rfl <| Y.b rfl <| Y.z <| Y.q <| WP.rstill mixed (by kernel_rfl) H ?_
    clear H; intro w hbw15 H
    refine Y.a rfl <| Y.v (Ev.geq rfl rfl) <| Y.v (Ev.mvB rfl) <| Y.g rfl rfl (fun hg => Y.f rfl rfl) <| Y.y rfl rfl H 3 (fun hg => gvE hg rfl) rfl rfl <| Y.g rfl rfl (fun hg => Y.m rfl) <| Y.g rfl rfl (fun hg => Ev.indexAddr1 (el_run rfl) (size_run rfl) (gvE hg rfl) (gvE hg rfl) rfl (by omega)) <| Y.g rfl rfl (fun hg => Ev.load1 (agg_run rfl) (gvE hg rfl) (H.ld0 (by assumption))) ?_
    refine Y.g rfl rfl (fun hg => Y.f rfl rfl) <| Y.y rfl rfl H 3 (fun hg => gvE hg rfl) rfl rfl <| Y.g rfl rfl (fun hg => Y.m rfl) <| Y.g rfl rfl (fun hg => Ev.indexAddr1 (el_run rfl) (size_run rfl) (gvE hg rfl) (gvE hg rfl) rfl (by omega)) <| Y.g rfl rfl (fun hg => Ev.load1 (agg_run rfl) (gvE hg rfl) (H.ld0 (by assumption))) ?_
    refine Y.g rfl rfl (fun hg => Ev.sub (gvE hg rfl) (gvE hg rfl) (by unfold fits; omega)) <| Y.g rfl rfl (fun hg => Y.m rfl) <| Y.g rfl rfl (fun hg => Ev.gtr (gvE hg rfl) (gvE hg rfl)) <| Y.v (Ev.pickAnd rfl rfl rfl) <| OPS.nil_s ?_
    refine WP.cond rfl (fun hc15 => ?_) (fun hc15 => ?_)
    ·refine Y.qr <| Y.v (Ev.asB rfl) <| Y.z ?_
     refine WP.ret ⟨_, rfl, ?_⟩
     have hb : 0 ≤ x ∧ x < v q - u j := by simpa using hc15
     exact hno w (Y.d1 H) fun hF => by have := hF j q x hxe2 hb.1; omega
    refine Y.k <| Y.r <| Y.v (Y.p rfl rfl) <| Y.a rfl <| Y.z ?_
    have hb : ¬ (0 ≤ x ∧ x < v q - u j) := by simpa using hc15
    refine ⟨Y.ag, k2 - 1, by omega, q + 1, by omega, rfl, fun k y hky hy hy0 => ?_, H⟩
    by_cases hkq : k = q
    ·subst hkq; rw [hxe2] at hy; cases hy; omega
    ·exact hfq k y (by omega) hy hy0
   refine WP.exit <| XB.hit <| Y.r <| Y.v (Y.p rfl rfl) <| Y.a rfl <| Y.z ?_
   have hq : q = rl.length := by simp at hc13; omega
   refine ⟨Y.ag, k - 1, by omega, j + 1, sm - u j * nx.move, by omega, rfl, rfl, (by rw [hdn, hcom, hsm]; omega), (by rw [hcom]; omega), fun i hi k y hy hy0 => ?_, H.drop (List.sublist_cons_self _ _)⟩
   by_cases hij : i = j
   ·subst hij
    have := (hX.tab.cols i k y hy).2
    exact hfq k y (by omega) hy hy0
   ·exact hfs i (by omega) k y hy hy0
  have hj : j = (colN ns).length := by simp at hc9; omega
  subst hj
  rw [List.take_of_length_le (show (movC ns).length ≤ (colN ns).length by omega)] at hsm
  have hF : Flo.Feas 1 (timL m l ns) u v := fun i k x hx hx0 => hfs i (by have := (hX.tab.cols i k x hx).1; omega) k x hx hx0
  obtain ⟨dC, hdC⟩ : ∃ dC, dC = Flo.dn (movC ns) u := ⟨_, rfl⟩
  rw [← hdC] at hsm
  have hfin : ∀ w, SH w0 [] w ([⟨g7, 40, bndL s2 b2 AU2 us2.length cu2 AV2 vs2.length cv2⟩, ⟨g5, 72, tskC Ac Ab At (colN ns).length (briN ns).length rs.length kc kb kt (capL ts) (movC ns).sum (movD ns).sum⟩, ⟨g3, 40, bndL s b AU us.length cu AV vs.length cv⟩, ⟨g2, 28, [I m, .slice A l.length ca, .slice B ts.length cb, .slice C ns.length cc, I hd]⟩] ++ LT) → ∀ r : Bool, (r = true ↔ s = divI (Flo.dn (movD ns) v - dC) (capL ts)) → ∃ r2 : Bool, Ending.returned (Bo r) = .returned (.bool r2) ∧ (r2 = true ↔ ProvedP m l ts ns hd s b us vs) ∧ Below w0.heap.size w0 w := fun w H r hr => by
   refine ⟨r, rfl, ⟨fun h => ⟨by rw [hfe]; exact q1, q2, ⟨q3, q4⟩, ⟨q5, q6⟩, ?_, ?_⟩, fun hp => hr.2 ?_⟩, H.below⟩
   ·rw [← hu, ← hv]; simpa using hF
   ·rw [← hu, ← hv, ← hdC]; exact hr.1 h
   ·have h2 := hp.secs
    rw [← hu, ← hv, ← hdC] at h2; exact h2
  refine WP.exit <| XB.hit <| Y.q <| Y.qr <| Y.fa rfl rfl <| Y.j H 1 rfl rfl rfl <| Y.v (Y.n rfl) <| Y.a rfl <| Y.z <| WP.block <| WP.loop [9, 14, 15, 106, 107, 108, 109, 110, 111, 112, 113, 114, 115, 116, 117, 118, 119, 120, 121, 122] (fun k e w' => ∃ (q : Nat) (sm2 : Int), q + k = (briN ns).length ∧ e 106 = I q ∧ e 9 = I sm2 ∧ sm2 = Flo.dn ((movD ns).take q) v - dC ∧ (sm ≤ sm2 ∧ sm2 ≤ 36028797018963968 * (q : Int)) ∧ SH w0 [] w' ([⟨g7, 40, bndL s2 b2 AU2 us2.length cu2 AV2 vs2.length cv2⟩, ⟨g5, 72, tskC Ac Ab At (colN ns).length (briN ns).length rs.length kc kb kt (capL ts) (movC ns).sum (movD ns).sum⟩, ⟨g3, 40, bndL s b AU us.length cu AV vs.length cv⟩, ⟨g2, 28, [I m, .slice A l.length ca, .slice B ts.length cb, .slice C ns.length cc, I hd]⟩] ++ LT)) ((briN ns).length) (⟨0, sm, by omega, rfl, rfl, (by rw [hsm]; simp [Flo.dn]), by omega, H⟩) ?_
  clear H
  rintro k uu w ⟨q, sm2, hk, h106, h9, hs2, hs2b, H⟩
  refine WP.know (t := 106) h106 (WP.know (t := 9) h9 ?_)
  refine Y.qr <| Y.v (Ev.lss rfl rfl) <| Y.z <| Y.q ?_
  refine WP.cond rfl (fun hc20 => ?_) (fun hc20 => ?_)
  ·have hlt : q < (briN ns).length := by simpa using hc20
   obtain ⟨bv, ov, rfl, hxv⟩ := hV q (by omega)
   rw [hvg q (by omega)] at hxv
   have hTt := hLT w H
   obtain ⟨b1, o1, rfl, hcn⟩ := hTt.b q hlt
   obtain ⟨ny, hny⟩ : ∃ ny, ny = (briN ns)[q] := ⟨_, rfl⟩
   rw [← hny] at hcn
   have hDj : (movD ns)[q]'(by omega) = -ny.move := by simp [movD, hny]
   have hmx : 1 ≤ -ny.move ∧ -ny.move ≤ 32 := hX.db (-ny.move) (List.mem_map.2 ⟨ny, by rw [hny]; exact List.getElem_mem hlt, rfl⟩)
   have hpb := prodB (a := -ny.move) (b := v q) (by omega) (hvb2 q)
   have hdn := dn_take (D := movD ns) (v := v) (j := q) (by omega)
   rw [hDj] at hdn
   have hcom : v q * -ny.move = -ny.move * v q := Int.mul_comm _ _
   obtain ⟨pd, hpd⟩ : ∃ pd, pd = -ny.move * v q := ⟨_, rfl⟩
   rw [← hpd] at hpb hdn hcom
   have hf1 : fits (v q * -ny.move) := by rw [hcom]; unfold fits; omega
   have hf2 : fits (sm2 + v q * -ny.move) := by rw [hcom]; unfold fits; omega
   refine Y.k <| Y.q <| WP.block <| Y.qr <| Y.a rfl <| Y.v (Y.X rfl rfl rfl rfl rfl) <| Y.v (Ev.loadN (needCells ny) (agg_run rfl) (size_run rfl) rfl hcn) <| Y.al H rfl rfl ?_
   clear H; intro g15 w H
   refine Y.b rfl <| Y.ss 0 H rfl (cA rfl) rfl ?_
   clear H; intro w H
   refine Y.z ?_
   unfold needCells at H
   simp only [putL, List.set_cons_zero, List.set_cons_succ] at H
   refine WP.rstill mixed (by kernel_rfl) H ?_
   clear H; intro w hbw22 H
   refine Y.a rfl <| Y.fa rfl rfl <| Y.j H 3 rfl rfl rfl <| Y.a rfl <| Y.v (Y.x rfl rfl rfl rfl) <| Y.v (Y.c (H.ld0 (by assumption)) rfl) ?_
   refine Y.fa rfl rfl <| Y.j H 0 rfl rfl rfl <| Y.v (Ev.neg rfl (by unfold fits; omega)) <| Y.v (Ev.mul rfl rfl hf1) <| Y.v (Ev.add rfl rfl hf2) <| Y.b rfl <| OPS.nil_s <| Y.r <| Y.v (Y.p rfl rfl) <| Y.a rfl <| Y.z ?_
   exact ⟨Y.ag, k - 1, by omega, q + 1, sm2 + v q * -ny.move, by omega, rfl, rfl, (by rw [hdn, hcom, hs2]; omega), (by rw [hcom]; omega), H.drop (List.sublist_cons_self _ _)⟩
  have hq : q = (briN ns).length := by simp at hc20; omega
  subst hq
  rw [List.take_of_length_le (show (movD ns).length ≤ (briN ns).length by omega)] at hs2
  refine WP.exit <| XB.hit <| Y.q <| Y.qr <| Y.a rfl <| Y.v (Ev.lss rfl rfl) <| Y.z ?_
  refine WP.cond rfl (fun hc24 => ?_) (fun hc24 => ?_)
  ·refine Y.qr <| Y.fa rfl rfl <| Y.j H 2 rfl rfl rfl <| Y.v (Ev.eql rfl rfl) <| Y.v (Ev.asB rfl) <| Y.z ?_
   refine WP.ret ⟨_, rfl, ?_⟩
   have hneg : sm2 < 0 := by simpa using hc24
   refine hfin w H _ ?_
   rw [← hs2, divI, if_pos (by omega)]
   simp
  have hneg : 0 ≤ sm2 := by simpa using hc24
  refine Y.k <| Y.q <| WP.rquiet mixed (by kernel_rfl) H ?_
  clear H; intro w hbw26 H
  refine Y.fa rfl rfl <| Y.j H 2 rfl rfl rfl <| Y.a rfl <| Y.fa rfl rfl <| Y.j H 1 rfl rfl rfl <| OPS.callq rfl rfl rfl (EvC.func (fun_run rfl)) (fun w2 hb2 => boundUp sm2 (capL ts) w2 (by omega) (by omega)) ?_
  refine Y.v (Ev.eql rfl rfl) <| Y.v (Ev.asB rfl) <| OPS.nilq H ?_
  clear H; intro w hbx26 H
  refine WP.ret ⟨_, rfl, ?_⟩
  refine hfin w H _ ?_
  rw [← hs2]
  simp
 ·have hfe : findErr n l ts ns hd = nightErr n l ts ns hd := by rw [findErr, if_pos h0]
  refine Calls.ofWP Tryz.func10 rfl Tryz.results10 Tryz.ntmps10 rfl <| Y.qr <| Y.bx (cA rfl) H ?_
  clear H; intro g2 w H
  refine Y.bx (cA rfl) H ?_
  clear H; intro g3 w H
  refine Y.v (Ev.asB rfl) <| Y.z <| Y.qr <| Y.v (Y.o H 1 rfl rfl) <| OPS.call (d := some 18) rfl rfl rfl (EvC.func (fun_run rfl)) (Calls.mono (boundRead n hd A B C l ts ns ca cb cc w (hN.sh H)) fun _ _ h => h.1 h0) ?_
  rintro _ w ⟨rfl, hb⟩
  refine ⟨_, rfl, ?_⟩
  replace H := H.toBelow hb; clear hb
  refine Y.v (Ev.mvT rfl) <| Y.v (Ev.extract rfl rfl) <| Y.v (Ev.extract rfl rfl) <| Y.al H rfl rfl ?_
  clear H; intro g5 w H
  refine Y.ss 0 H rfl (cA rfl) rfl ?_
  clear H; intro w H
  refine Y.b rfl <| Y.z <| Y.q <| Y.qr <| Y.a rfl <| Y.v (Ev.neq rfl rfl) <| Y.z ?_
  refine WP.cond rfl (fun hc2 => ?_) (fun hc2 => ?_)
  ·refine Y.qr <| Y.v (Ev.asB rfl) <| Y.z ?_
   refine WP.ret ⟨_, rfl, ?_⟩
   exact ⟨false, rfl, ⟨(fun h => by cases h), fun hp => absurd (hfe ▸ hp.err) h0⟩, H.below⟩
  refine Y.k <| Y.q <| Y.q ?_
  exact absurd hc2 (by simp [h0])
end Go.Proofs.YthobaaefdehoiaaGreat

/-
 Plain: what Find finds is proved; the chapter's examples.
-/
set_option linter.all false
namespace Go.Proofs.YthobaaefdehoiaaGreat
open Go Go.W Go.RowKit
theorem FindRet.proved {n : Int} {l : List Edg} {ts : List Truck} {ns : List Need} {hd s b : Int} {us vs : List Int} (h : FindRet n l ts ns hd s b us vs) (he : findErr n l ts ns hd = 0) : ProvedP n l ts ns hd s b us vs := by
 obtain ⟨m, T, rfl, hK, hS, h1, h2, h3⟩ := h.good he
 have hC : (movC ns).length = (colN ns).length := by simp [movC]
 have hD : (movD ns).length = (briN ns).length := by simp [movD]
 refine ⟨he, h2, ⟨?_, by rw [hS.ul, hC]⟩, ⟨?_, by rw [hS.vl, hD]⟩, by simpa using hS.feas, by rw [hS.val]; exact h1⟩
 ·unfold rngB; rw [List.all_eq_true]
  intro x hx
  have := hS.ub x hx
  simp; omega
 ·unfold rngB; rw [List.all_eq_true]
  intro x hx
  have := hS.vb x hx
  simp; omega
theorem getD_nn {l : List Int} (h : rngB l = true) (j : Nat) : 0 ≤ l.getD j 0 := (rngB_at h j).1
theorem tm1 {a x : Int} {j k : Nat} (h : Flo.tmAt [[a]] j k = some x) : j = 0 ∧ k = 0 ∧ x = a := by
 unfold Flo.tmAt at h
 match j, k, h with
 | 0, 0, h => simp at h; exact ⟨rfl, rfl, h.symm⟩
 | 0, k + 1, h => simp at h
 | j + 1, k, h => simp at h
end Go.Proofs.YthobaaefdehoiaaGreat

/-
 The laws BoundBest, BoundNeeds.
-/
set_option linter.all false
namespace Go.Proofs.YthobaaefdehoiaaGreat
open Go Go.W Go.RowKit
theorem findErr_night {n hd : Int} {l : List Edg} {ts : List Truck} {ns : List Need} (h : findErr n l ts ns hd = 0) : ∃ m : Nat, n = m ∧ NightOk m l ts ns hd ∧ emptyB (capL ts) (movC ns).sum (movD ns).sum = false ∧ Flo.Hall (movC ns) (movD ns) (timL m l ns) := by
 unfold findErr at h
 split at h
 ·rename_i h1; exact absurd h h1
 ·rename_i h1
  obtain ⟨m, rfl, hK⟩ := nightOk_of (by simpa using h1)
  unfold solveErr at h
  split at h
  ·cases h
  ·rename_i h2
   split at h
   ·rename_i h3; exact ⟨m, rfl, hK, by simpa using h2, by simpa using h3⟩
   ·cases h
end Go.Proofs.YthobaaefdehoiaaGreat

/-
 Walks: short, driving.
-/
set_option linter.all false
namespace Go.Proofs.YthobaaefdehoiaaGreat
open Go Go.W Go.RowKit
noncomputable def drvL (n : Int) (l : List Edg) (ts : List Truck) (ns : List Need) (hd : Int) (rs : List Rt) : Int := (rs.map fun r => outD n l ts ns hd r.trk r.nd.l).sum
theorem drvL_succ {n hd : Int} {l : List Edg} {ts : List Truck} {ns : List Need} {rs : List Rt} {j : Nat} (hj : j < rs.length) : drvL n l ts ns hd (rs.take (j + 1)) = drvL n l ts ns hd (rs.take j) + outD n l ts ns hd rs[j].trk rs[j].nd.l := by
 rw [List.take_succ_eq_append_getElem hj]; unfold drvL; rw [List.map_append, List.sum_append, List.map_cons, List.map_nil, List.sum_cons, List.sum_nil, Int.add_zero]
theorem outD_bd {n hd rt : Int} {l : List Edg} {ts : List Truck} {ns : List Need} {rn : List Int} (h : walkE n l ts ns hd rt rn = 0) : 0 ≤ outD n l ts ns hd rt rn ∧ outD n l ts ns hd rt rn ≤ 2000000 := by
 obtain ⟨m, q, t, rfl, rfl, hW⟩ := walkOk_of h
 have h1 := hW.ts rn.length (Nat.le_refl _)
 rw [List.take_length] at h1
 have h2 := nodup_len hW.nd hW.hr
 have h3 := hW.night.nl
 obtain ⟨dv, hdv⟩ := Int.eq_ofNat_of_zero_le hW.tr.1.1
 have hdm := hW.tr.1.2
 have h4 := roadT_bd (v := t.depot.toNat) hW.night.road h1.at_ (by omega)
 have h5 : 0 ≤ roadT m l (goT (roadD m l) hd ns rn (startT t)).at_ t.depot.toNat := by
  have := hW.home
  unfold homeE at this
  split at this
  ·cases this
  ·omega
 have h6 := h1.driven
 rw [hW.D]
 omega
end Go.Proofs.YthobaaefdehoiaaGreat

/-
 Plain: no plan that serves all needs drives for less than the bound.
-/
set_option linter.all false
namespace Go.Proofs.YthobaaefdehoiaaGreat
open Go Go.W Go.RowKit
theorem dn_map {L : List Need} {f g : Need → Int} : ∀ {v : Nat → Int}, (∀ k (hk : k < L.length), v k = g L[k]) → Flo.dn (L.map f) v = (L.map fun x => f x * g x).sum := by
 induction L with
 | nil => intro v _; rfl
 | cons a L ih =>
  intro v h
  rw [List.map_cons, Flo.dn, List.map_cons, List.sum_cons, ih (v := fun k => v (k + 1)) (fun k hk => by
   have := h (k + 1) (by simp; omega)
   simpa using this)]
  have h0 := h 0 (by simp)
  rw [h0]; rfl
open Classical in
noncomputable def prI (L : List Need) (v : Nat → Int) (x : Need) : Int := if h : ∃ k, L[k]? = some x then v h.choose else 0
theorem prI_at {L : List Need} (hL : L.Nodup) {v : Nat → Int} {k : Nat} (hk : k < L.length) : v k = prI L v L[k] := by
 have h : ∃ j, L[j]? = some L[k] := ⟨k, by simp [hk]⟩
 rw [prI, dif_pos h]
 have hs := h.choose_spec
 generalize h.choose = j at hs
 obtain ⟨hj, he⟩ := List.getElem?_eq_some_iff.1 hs
 rcases Nat.lt_trichotomy j k with hlt | rfl | hlt
 ·exact absurd he ((List.pairwise_iff_getElem.1 (List.nodup_iff_pairwise_ne.1 hL)) j k hj hk hlt)
 ·rfl
 ·exact absurd he.symm ((List.pairwise_iff_getElem.1 (List.nodup_iff_pairwise_ne.1 hL)) k j hk hj hlt)
theorem sum_filter (p : Need → Bool) (g : Need → Int) (l : List Need) : ((l.filter p).map g).sum + ((l.filter fun x => !p x).map g).sum = (l.map g).sum := by
 induction l with
 | nil => rfl
 | cons a l ih =>
  rw [List.map_cons, List.sum_cons, ← ih]
  cases h : p a <;> simp [h] <;> omega
noncomputable def prN (ns : List Need) (u v : Nat → Int) (x : Need) : Int := if 0 < x.move then prI (colN ns) u x else prI (briN ns) v x
theorem dn_all {ns : List Need} (hn : ns.Nodup) (u v : Nat → Int) : Flo.dn (movD ns) v - Flo.dn (movC ns) u = (ns.map fun x => -x.move * prN ns u v x).sum := by
 have hC : (colN ns).Nodup := List.Nodup.sublist List.filter_sublist hn
 have hD : (briN ns).Nodup := List.Nodup.sublist List.filter_sublist hn
 have e1 : Flo.dn (movC ns) u = ((colN ns).map fun x => x.move * prI (colN ns) u x).sum := dn_map fun k hk => prI_at hC hk
 have e2 : Flo.dn (movD ns) v = ((briN ns).map fun x => -x.move * prI (briN ns) v x).sum := dn_map fun k hk => prI_at hD hk
 have e3 : ((colN ns).map fun x => x.move * prI (colN ns) u x).sum = -((colN ns).map fun x => -x.move * prN ns u v x).sum := by
  have h : ∀ L : List Need, (∀ x ∈ L, 0 < x.move) → (L.map fun x => x.move * prI (colN ns) u x).sum = -(L.map fun x => -x.move * prN ns u v x).sum := by
   intro L
   induction L with
   | nil => intro _; rfl
   | cons a L ih =>
    intro hL
    rw [List.map_cons, List.sum_cons, List.map_cons, List.sum_cons, ih (fun x hx => hL x (List.mem_cons_of_mem _ hx)), prN, if_pos (hL a (by simp)), Int.neg_mul]
    omega
  exact h _ fun x hx => by have := (List.mem_filter.1 hx).2; simpa using this
 have e4 : ((briN ns).map fun x => -x.move * prI (briN ns) v x).sum = ((briN ns).map fun x => -x.move * prN ns u v x).sum := by
  congr 1
  refine List.map_congr_left fun x hx => ?_
  have h : ¬ 0 < x.move := by have := (List.mem_filter.1 hx).2; simpa using this
  rw [prN, if_neg h]
 have e5 := sum_filter (fun x => decide (0 < x.move)) (fun x => -x.move * prN ns u v x) ns
 rw [e1, e2, e3, e4]
 show _ = (ns.map fun x => -x.move * prN ns u v x).sum
 rw [← e5]
 show _ = ((colN ns).map fun x => -x.move * prN ns u v x).sum + ((briN ns).map fun x => -x.move * prN ns u v x).sum
 omega
section
variable (D : Nat → Nat → Int) (ns : List Need) (w : Int) (P : Need → Int)
def Good (m c : Nat) (z : Int) : Prop := 0 ≤ z ∧ ∀ x ∈ ns, x.move < 0 → 0 ≤ D c x.node.toNat → x.node.toNat < m → P x ≤ z + w * D c x.node.toNat
def gainR (rn : List Int) : Int := (rn.map fun i => -(needAt ns i).move * P (needAt ns i)).sum
end
theorem sum_addc (w d : Int) (b : List Int) : (b.map fun z => z + w * d).sum = b.sum + (b.length : Int) * (w * d) := by
 induction b with
 | nil => simp
 | cons a b ih =>
  rw [List.map_cons, List.sum_cons, ih, List.sum_cons, List.length_cons]
  have : (((b.length + 1 : Nat) : Int)) * (w * d) = (b.length : Int) * (w * d) + w * d := by rw [Int.natCast_add, Int.add_mul]; simp
  omega
theorem sum_ge {c : Int} : ∀ {b : List Int}, (∀ z ∈ b, c ≤ z) → (b.length : Int) * c ≤ b.sum
 | [], _ => by simp
 | a :: b, h => by
  have h1 := sum_ge (b := b) fun z hz => h z (List.mem_cons_of_mem _ hz)
  have h2 := h a (by simp)
  rw [List.sum_cons, List.length_cons]
  have : (((b.length + 1 : Nat) : Int)) * c = (b.length : Int) * c + c := by rw [Int.natCast_add, Int.add_mul]; simp
  omega
theorem sum_rep (k : Nat) (c : Int) : (List.replicate k c).sum = (k : Int) * c := by
 induction k with
 | zero => simp
 | succ k ih => rw [List.replicate_succ, List.sum_cons, ih, Int.natCast_add, Int.add_mul]; simp; omega
section
variable {D : Nat → Nat → Int} {ns : List Need} {w : Int} {P : Need → Int} {m : Nat} {cap hd : Int}
theorem route_gain (hw : 0 ≤ w) (htri : ∀ a b c, a < m → b < m → c < m → 0 ≤ D a b → 0 ≤ D b c → 0 ≤ D a c ∧ D a c ≤ D a b + D b c)
  (hnd : ∀ x ∈ ns, (0 ≤ x.node ∧ x.node < m) ∧ x.move ≠ 0)
  (hP0 : ∀ x ∈ ns, 0 < x.move → 0 ≤ P x) (hPf : ∀ x ∈ ns, 0 < x.move → ∀ y ∈ ns, y.move < 0 → 0 ≤ D x.node.toNat y.node.toNat → P y ≤ P x + w * D x.node.toNat y.node.toNat) :
  ∀ (rn : List Int) (s : TS) (b : List Int), (∀ i ∈ rn, 0 ≤ i ∧ i < ns.length) → s.at_ < m → (b.length : Int) = s.load → s.load ≤ cap → (∀ z ∈ b, Good D ns w P m s.at_ z) → goE D cap hd ns rn s = 0 →
   gainR ns P rn ≤ b.sum + w * (cap * ((goT D hd ns rn s).driven - s.driven))
 | [], s, b, _, _, _, _, hb, _ => by
  have h := sum_ge (c := 0) (b := b) fun z hz => (hb z hz).1
  simp [gainR, goT] at h ⊢
  exact h
 | i :: rn, s, b, hr, hs, hbl, hlc, hb, hg => by
  obtain ⟨hi0, hi1⟩ := hr i (by simp)
  obtain ⟨ni, rfl⟩ := Int.eq_ofNat_of_zero_le hi0
  have hnl : ni < ns.length := by omega
  have hna : needAt ns (ni : Int) = ns[ni] := by simp [needAt, hnl]
  have hx := List.getElem_mem hnl
  have hxn := hnd _ hx
  rw [goE] at hg
  have hv : visitE (goD D ns ni s) cap (needAt ns ni) s = 0 := by
   by_cases h : visitE (goD D ns ni s) cap (needAt ns ni) s = 0
   ·exact h
   ·rw [if_pos h] at hg; exact hg
  rw [if_neg (by simp [hv])] at hg
  have e0 : gainR ns P ((ni : Int) :: rn) = -(ns[ni]).move * P ns[ni] + gainR ns P rn := by
   unfold gainR; rw [List.map_cons, List.sum_cons, hna]
  rw [hna] at hv hg
  have ed : goD D ns (ni : Int) s = D s.at_ (ns[ni]).node.toNat := by unfold goD; rw [hna]
  rw [ed] at hv hg
  have eT : goT D hd ns ((ni : Int) :: rn) s = goT D hd ns rn (visitT (D s.at_ (ns[ni]).node.toNat) hd ns[ni] s) := by rw [goT, hna, ed]
  rw [e0, eT]
  generalize hx' : ns[ni] = x at *
  generalize hdd : D s.at_ x.node.toNat = d at *
  have hd0 : ¬ d < 0 := fun h => by rw [visitE, if_pos h] at hv; exact absurd hv (by decide)
  have hin : inB (s.load + x.move) 0 cap = true := by
   by_cases h : inB (s.load + x.move) 0 cap = true
   ·exact h
   ·rw [visitE, if_neg hd0, if_neg h] at hv; exact absurd hv (by decide)
  have hld : 0 ≤ s.load + x.move ∧ s.load + x.move ≤ cap := by simpa [inB] using hin
  have hxm : x.node.toNat < m := by omega
  have hd1 : 0 ≤ d := by omega
  have hwd : 0 ≤ w * d := Int.mul_nonneg hw hd1
  have hgood : ∀ z ∈ b, Good D ns w P m x.node.toNat (z + w * d) := fun z hz => by
   obtain ⟨h1, h2⟩ := hb z hz
   refine ⟨by omega, fun y hy hym hDy hylt => ?_⟩
   have h3 := htri s.at_ x.node.toNat y.node.toNat hs hxm hylt (by omega) hDy
   have h4 := h2 y hy hym h3.1 hylt
   have h5 : w * D s.at_ y.node.toNat ≤ w * (d + D x.node.toNat y.node.toNat) := Int.mul_le_mul_of_nonneg_left (by omega) hw
   rw [Int.mul_add] at h5
   omega
  have hbs := sum_addc w d b
  have hbc : (b.length : Int) * (w * d) ≤ cap * (w * d) := Int.mul_le_mul_of_nonneg_right (by omega) hwd
  have edr : w * (cap * ((goT D hd ns rn (visitT d hd x s)).driven - s.driven)) = cap * (w * d) + w * (cap * ((goT D hd ns rn (visitT d hd x s)).driven - (visitT d hd x s).driven)) := by
   have : (visitT d hd x s).driven = s.driven + d := rfl
   rw [this]
   generalize (goT D hd ns rn (visitT d hd x s)).driven = q
   have e : q - s.driven = (q - (s.driven + d)) + d := by omega
   rw [e, Int.mul_add, Int.mul_add, Int.mul_left_comm w cap d]
   omega
  by_cases hpos : 0 < x.move
  ·have hk : ((x.move.toNat : Nat) : Int) = x.move := by omega
   have ih := route_gain hw htri hnd hP0 hPf rn (visitT d hd x s) ((b.map fun z => z + w * d) ++ List.replicate x.move.toNat (P x)) (fun j hj => hr j (List.mem_cons_of_mem _ hj)) hxm
    (by rw [List.length_append, List.length_map, List.length_replicate]; show _ = s.load + x.move; omega) hld.2 (fun z hz => by
     rcases List.mem_append.1 hz with hz | hz
     ·obtain ⟨z0, hz0, rfl⟩ := List.mem_map.1 hz
      exact hgood z0 hz0
     ·obtain ⟨_, rfl⟩ := List.mem_replicate.1 hz
      exact ⟨hP0 x hx hpos, fun y hy hym hDy _ => hPf x hx hpos y hy hym hDy⟩) hg
   rw [List.sum_append, hbs, sum_rep, hk] at ih
   rw [edr, Int.neg_mul]
   omega
  ·have hneg : x.move < 0 := by have := hxn.2; omega
   have hk : (((-x.move).toNat : Nat) : Int) = -x.move := by omega
   have hkl : (-x.move).toNat ≤ b.length := by omega
   have ih := route_gain hw htri hnd hP0 hPf rn (visitT d hd x s) ((b.drop (-x.move).toNat).map fun z => z + w * d) (fun j hj => hr j (List.mem_cons_of_mem _ hj)) hxm
    (by rw [List.length_map, List.length_drop]; show _ = s.load + x.move; omega) hld.2 (fun z hz => by
     obtain ⟨z0, hz0, rfl⟩ := List.mem_map.1 hz
     exact hgood z0 (List.mem_of_mem_drop hz0)) hg
   have htake : (((b.take (-x.move).toNat).map fun z => z + w * d).length : Int) * P x ≤ ((b.take (-x.move).toNat).map fun z => z + w * d).sum := sum_ge fun z hz => by
    obtain ⟨z0, hz0, rfl⟩ := List.mem_map.1 hz
    have h1 := (hb z0 (List.mem_of_mem_take hz0)).2 x hx hneg (by omega) hxm
    rw [hdd] at h1; exact h1
   have hsplit : ((b.take (-x.move).toNat).map fun z => z + w * d).sum + ((b.drop (-x.move).toNat).map fun z => z + w * d).sum = (b.map fun z => z + w * d).sum := by
    rw [← List.sum_append, ← List.map_append, List.take_append_drop]
   rw [List.length_map, List.length_take, Nat.min_eq_left hkl, hk] at htake
   rw [edr]
   omega
end
end Go.Proofs.YthobaaefdehoiaaGreat

/-
 Plain: no feasible plan drives for less than a proved bound.
-/
set_option linter.all false
namespace Go.Proofs.YthobaaefdehoiaaGreat
open Go Go.W Go.RowKit
theorem capL_foldl_ge {ts : List Truck} : ∀ {c : Int}, c ≤ ts.foldl (fun c t => if c < t.cap then t.cap else c) c := by
 induction ts with
 | nil => intro c; exact Int.le_refl _
 | cons a l ih =>
  intro c
  rw [List.foldl_cons]
  refine Int.le_trans ?_ ih
  split <;> omega
theorem capL_mem {ts : List Truck} {t : Truck} (h : t ∈ ts) : t.cap ≤ capL ts := by
 unfold capL
 generalize (0 : Int) = c
 induction ts generalizing c with
 | nil => simp at h
 | cons a l ih =>
  rw [List.foldl_cons]
  rcases List.mem_cons.1 h with rfl | h
  ·refine Int.le_trans ?_ capL_foldl_ge
   split <;> omega
  ·exact ih h _
theorem gainR_app {ns : List Need} {P : Need → Int} {a b : List Int} : gainR ns P (a ++ b) = gainR ns P a + gainR ns P b := by
 unfold gainR; rw [List.map_append, List.sum_append]
theorem perm_sumI {a b : List Int} (h : a.Perm b) : a.sum = b.sum := by
 induction h with
 | nil => rfl
 | cons x _ ih => rw [List.sum_cons, List.sum_cons, ih]
 | swap x y l => simp only [List.sum_cons]; omega
 | trans _ _ ih1 ih2 => rw [ih1, ih2]
theorem gainR_perm {ns : List Need} {P : Need → Int} {a b : List Int} (h : a.Perm b) : gainR ns P a = gainR ns P b := by
 unfold gainR
 exact perm_sumI (h.map _)
theorem gainR_upto {P : Need → Int} {ns : List Need} : gainR ns P (upto ns.length) = (ns.map fun x => -x.move * P x).sum := by
 unfold gainR upto
 congr 1
 rw [List.map_map]
 refine List.ext_getElem (by simp) fun i h1 h2 => ?_
 have hi : i < ns.length := by simpa using h2
 simp [needAt, hi]
theorem perm_of_good {N : Nat} {a : List Int} (hn : a.Nodup) (hg : goodAll N a = true) : a.Perm (upto N) := by
 unfold goodAll at hg
 rw [Bool.and_eq_true, decide_eq_true_iff, decide_eq_true_iff] at hg
 refine (List.perm_ext_iff_of_nodup hn (upto_nodup N)).2 fun x => ?_
 refine ⟨fun h => upto_mem.2 (hg.1 x h), fun h => ?_⟩
 refine Classical.byContradiction fun hc => ?_
 have h3 := nodup_sub (a := x :: a) (b := upto N) (List.nodup_cons.2 ⟨hc, hn⟩) (fun y hy => by
  rcases List.mem_cons.1 hy with rfl | hy
  ·exact h
  ·exact upto_mem.2 (hg.1 y hy))
 rw [upto_len, List.length_cons] at h3
 omega
theorem plan_gain {m : Nat} {hd w : Int} {l : List Edg} {ts : List Truck} {ns : List Need} {rs : List Rt} {u v : Nat → Int} (hp : PlanOk m l ts ns hd rs []) (hN : NightOk m l ts ns hd) (hw : 0 ≤ w) (hu : ∀ j, 0 ≤ u j) (hF : Flo.Feas w (timL m l ns) u v) :
  Flo.dn (movD ns) v - Flo.dn (movC ns) u ≤ w * (capL ts * drvL m l ts ns hd rs) := by
 have hnn : ns.Nodup := by
  have h := List.nodup_iff_pairwise_ne.1 hN.one
  rw [List.pairwise_map] at h
  exact List.nodup_iff_pairwise_ne.2 (h.imp fun hne he => hne (by rw [he]))
 have hC : (colN ns).Nodup := List.Nodup.sublist List.filter_sublist hnn
 have hD : (briN ns).Nodup := List.Nodup.sublist List.filter_sublist hnn
 rw [dn_all hnn, ← gainR_upto]
 have hperm := perm_of_good hp.nd hp.good
 rw [List.append_nil] at hperm
 rw [← gainR_perm hperm]
 have hP0 : ∀ x ∈ ns, 0 < x.move → 0 ≤ prN ns u v x := fun x _ h => by
  rw [prN, if_pos h, prI]
  split
  ·exact hu _
  ·exact Int.le_refl _
 have hPf : ∀ x ∈ ns, 0 < x.move → ∀ y ∈ ns, y.move < 0 → 0 ≤ roadD m l x.node.toNat y.node.toNat → prN ns u v y ≤ prN ns u v x + w * roadD m l x.node.toNat y.node.toNat := fun x hx hxm y hy hym h0 => by
  have hxc : x ∈ colN ns := List.mem_filter.2 ⟨hx, by simpa using hxm⟩
  have hyb : y ∈ briN ns := List.mem_filter.2 ⟨hy, by simp; omega⟩
  obtain ⟨j, hj, rfl⟩ := List.mem_iff_getElem.1 hxc
  obtain ⟨k, hk, rfl⟩ := List.mem_iff_getElem.1 hyb
  rw [prN, if_neg (by omega), prN, if_pos hxm, ← prI_at hD hk, ← prI_at hC hj]
  exact hF j k _ (timL_some hj hk) h0
 have htri : ∀ a b c, a < m → b < m → c < m → 0 ≤ roadD m l a b → 0 ≤ roadD m l b c → 0 ≤ roadD m l a c ∧ roadD m l a c ≤ roadD m l a b + roadD m l b c := fun a b c ha hb hc h1 h2 => roadT_tri hN.road ha hb hc h1 h2
 have hroute : ∀ i (hi : i < rs.length), gainR ns (prN ns u v) rs[i].nd.l ≤ w * (capL ts * outD m l ts ns hd rs[i].trk rs[i].nd.l) := fun i hi => by
  obtain ⟨m', q, t, hm, hq, hW⟩ := walkOk_of (hp.walks i hi)
  obtain rfl : m = m' := by omega
  have hg := route_gain (D := roadD m l) (ns := ns) (w := w) (P := prN ns u v) (m := m) (cap := t.cap) (hd := hd) hw htri (fun x hx => ⟨(hN.nd x hx).1, (hN.nd x hx).2.1⟩) hP0 hPf rs[i].nd.l (startT t) [] hW.hr (by show t.depot.toNat < m; have := hW.tr.1; omega) rfl (by show (0 : Int) ≤ t.cap; have := hW.tr.2.1; omega) (fun z hz => by simp at hz) hW.go
  have hcap := capL_mem (List.mem_of_getElem? hW.ht)
  have hts := hW.ts rs[i].nd.l.length (Nat.le_refl _)
  rw [List.take_length] at hts
  have h5 : 0 ≤ roadT m l (goT (roadD m l) hd ns rs[i].nd.l (startT t)).at_ t.depot.toNat := by
   have := hW.home
   unfold homeE at this
   split at this
   ·cases this
   ·omega
  have hD := hW.D
  rw [← hq] at hD
  rw [hD]
  generalize (goT (roadD m l) hd ns rs[i].nd.l (startT t)) = s at *
  generalize roadT m l s.at_ t.depot.toNat = d at *
  have hz : s.driven - (startT t).driven = s.driven := by show s.driven - 0 = _; omega
  rw [hz] at hg
  have h1 : t.cap * s.driven ≤ capL ts * (s.driven + d) := Int.mul_le_mul hcap (by omega) hts.driven.1 (by have := hW.tr.2.1; omega)
  have h2 := Int.mul_le_mul_of_nonneg_left h1 hw
  simp only [List.sum_nil] at hg
  omega
 have hall : ∀ j, j ≤ rs.length → gainR ns (prN ns u v) (allN (rs.take j)) ≤ w * (capL ts * drvL m l ts ns hd (rs.take j)) := fun j => by
  induction j with
  | zero => intro _; simp [allN, gainR, drvL]
  | succ j ih =>
   intro hj
   have h1 := ih (by omega)
   have h2 := hroute j (by omega)
   have e : allN (rs.take (j + 1)) = allN (rs.take j) ++ (rs[j]'(by omega)).nd.l := by rw [List.take_succ_eq_append_getElem (by omega)]; unfold allN; rw [List.flatMap_append, List.flatMap_cons, List.flatMap_nil, List.append_nil]
   rw [e, gainR_app, drvL_succ (by omega), Int.mul_add, Int.mul_add]
   omega
 have := hall rs.length (Nat.le_refl _)
 rw [List.take_length] at this
 exact this
theorem sound_reach {n hd : Int} {l : List Edg} {ts : List Truck} {ns : List Need} {rs : List Rt} (hp : PlanOk n l ts ns hd rs []) : findErr n l ts ns hd ≠ 15 := by
 obtain ⟨m, rfl, hN⟩ := nightOk_of hp.night
 rw [findErr, if_neg (by simp [hp.night]), solveErr]
 split
 ·decide
 ·have h : Flo.Hall (movC ns) (movD ns) (timL m l ns) := fun u v hu hF => by
   have := plan_gain hp hN (Int.le_refl 0) hu hF
   rw [Int.zero_mul] at this
   omega
  rw [if_pos (by simpa using h)]
  decide
theorem divI_sum {T c s : Int} (hc : 1 ≤ c) (hs : 0 ≤ s) (h : T ≤ c * s) : divI T c ≤ s := by
 unfold divI
 split
 ·exact hs
 ·have h1 : (T + c - 1) / c < s + 1 := Int.ediv_lt_of_lt_mul (by omega) (by rw [Int.add_mul, Int.mul_comm s c]; omega)
  omega
theorem drvL_nn {n hd : Int} {l : List Edg} {ts : List Truck} {ns : List Need} {rs : List Rt} (hp : PlanOk n l ts ns hd rs []) : 0 ≤ drvL n l ts ns hd rs := by
 unfold drvL
 have h := sum_ge (c := 0) (b := rs.map fun r => outD n l ts ns hd r.trk r.nd.l) fun z hz => by
  obtain ⟨r, hr, rfl⟩ := List.mem_map.1 hz
  obtain ⟨i, hi, rfl⟩ := List.mem_iff_getElem.1 hr
  exact (outD_bd (hp.walks i hi)).1
 rw [Int.mul_zero] at h
 exact h
theorem sound_le {n hd s b : Int} {l : List Edg} {ts : List Truck} {ns : List Need} {rs : List Rt} {us vs : List Int} (hp : PlanOk n l ts ns hd rs []) (hP : ProvedP n l ts ns hd s b us vs) : s ≤ drvL n l ts ns hd rs := by
 obtain ⟨m, rfl, hN, hem, _⟩ := findErr_night hP.err
 have h := plan_gain (w := 1) hp hN (by omega) (getD_nn hP.un.1) (by simpa using hP.feas)
 rw [Int.one_mul] at h
 have hc := capL_bd hN
 have hc1 : 1 ≤ capL ts := by
  unfold emptyB at hem
  simp at hem
  omega
 rw [hP.secs]
 exact divI_sum hc1 (drvL_nn hp) h
end Go.Proofs.YthobaaefdehoiaaGreat

/-
 The law BoundSound.
-/
set_option linter.all false
namespace Go.Proofs.YthobaaefdehoiaaGreat
open Go Go.W Go.RowKit
open Classical in
theorem boundProvedD (n hd s b : Int) (A B C AU AV : Option Addr) (l : List Edg) (ts : List Truck) (ns : List Need) (us vs : List Int) (ca cb cc cu cv : Nat) (w0 : World) (hN : NightAt w0 A B C l ts ns cc) (hU : IntsAt w0 AU us) (hV : IntsAt w0 AV vs) (hul : us.length ≤ 1000) (hvl : vs.length ≤ 1000) :
  Calls Tryz.prog 10 #[.agg #[I n, .slice A l.length ca, .slice B ts.length cb, .slice C ns.length cc, I hd], .agg (bndL s b AU us.length cu AV vs.length cv).toArray] w0 fun e w' => e = .returned (.bool (decide (ProvedP n l ts ns hd s b us vs))) ∧ Below w0.heap.size w0 w' :=
 (boundProved n hd s b A B C AU AV l ts ns us vs ca cb cc cu cv w0 hN hU hV hul hvl).mono fun e w' ⟨r, h1, h2, h3⟩ => by
  refine ⟨?_, h3⟩
  rw [h1]
  have h : r = decide (ProvedP n l ts ns hd s b us vs) := by
   cases r with
   | true => exact (decide_eq_true (h2.1 rfl)).symm
   | false => exact (decide_eq_false fun hp => by have := h2.2 hp; simp at this).symm
  rw [h]
theorem FindRet.short {n hd s b : Int} {l : List Edg} {ts : List Truck} {ns : List Need} {us vs : List Int} (h : FindRet n l ts ns hd s b us vs) : us.length ≤ 1000 ∧ vs.length ≤ 1000 := by
 by_cases he : findErr n l ts ns hd = 0
 ·have hp := h.proved he
  obtain ⟨m, rfl, hK, _, _⟩ := findErr_night he
  have h1 : (colN ns).length ≤ ns.length := List.length_filter_le _ _
  have h2 : (briN ns).length ≤ ns.length := List.length_filter_le _ _
  have := hK.nl
  have := hp.un.2
  have := hp.vn.2
  omega
 ·obtain ⟨_, _, rfl, rfl⟩ := h.bad he
  simp
end Go.Proofs.YthobaaefdehoiaaGreat

/-
 Engine: guarded operations whose guard is known, in held regions and in whatever mode.
-/
set_option linter.all false
namespace Go.W
open Go.RowKit
section
variable {P : Program} {N : Nat} {m : Md} {ops : Array Oper} {K : Env → World → Prop} {e : Env} {w w0 : World} {S : List Nat} {L : List Blk} {fuel : Nat} {listed : Array Bool} {rest : List Oper} {o : Oper}
theorem WP.scope {c : Code} {Kn : Env → World → Prop} {Kx : Nat → Env → World → Prop} {Kr : Env → World → Prop} (h : WP P N c Kn Kx Kr e w) : WP P N (.scope c) Kn Kx Kr e w :=
 ⟨fun a h1 h2 h3 => wp_scope_straight (Code.wp_mono (fun ex a w h => by cases ex <;> simp only [post, Exit.noGoto] at h ⊢ <;> try exact h) (h.run a h1 h2 h3))⟩
theorem OPS.gnoN {d : Option Nat} {j dj : Nat} {want : Bool} (hg : o.guard = some (j, want)) (hj : ops[j]?.bind (·.dst) = some dj) (hb : GB (e dj) want false) (hd : o.dst = d) (hN : (d.all fun d => Nat.blt d N) = true)
  (h : OPS P N m ops K rest (updo e d undef) w) : OPS P N m ops K (o :: rest) e w :=
 ⟨fun a h1 h2 h3 => by
  have hy := yielded_gb (a := a) (want := want) (q := false) hj (h1 ▸ hb)
  have hwt : Region.wanted o (yielded ops a.tmps) = false := by simp only [Region.wanted, hg]; exact hy
  have hn := h.run (a.put d undef) (by rw [envOf_puto d _ h2 hN, h1]) (by rw [size_put]; exact h2) (by rw [defers_put]; exact h3)
  cases m with
  | plain => simp only at hn ⊢; unfold wpList; rw [hwt, hd]; exact hn
  | still => simp only at hn ⊢; unfold wpStill; rw [hwt, hd]; exact hn
  | quiet => simp only at hn ⊢; unfold wpQuiet; rw [hwt, hd]; exact hn⟩
theorem OPH.takeY (i : Nat) {oi : Oper} {d j dj : Nat} {want : Bool} {v : Value} {f : Nat} (hi : ops[i]? = some oi) (hg : oi.guard = some (j, want)) (hj : ops[j]?.bind (·.dst) = some dj) (hb : e dj = .bool want) (hd : oi.dst = some d) (hN : Nat.blt d N = true) (hs : Region.noSelect ops = true) (hf : Region.free .any ops listed i = true)
  (hr : (Region.ready .any ops listed).contains i = true) (hfu : fuel = f + 1) (H : SH w0 S w L) (hE : ∀ w', SH w0 S w' L → Ev P e w' oi.type oi.op v)
  (h : OPH P N ops K w0 S L f (listed.setIfInBounds i true) (upd e d v) w) : OPH P N ops K w0 S L fuel listed e w :=
 ⟨fun a h1 h2 h3 => by
  subst hfu
  have hy := yielded_of (a := a) hj (h1 ▸ hb)
  have hwt : Region.wanted oi (yielded ops a.tmps) = true := by simp [Region.wanted, hg, hy]
  have hn := h.run (a.put (some d) v) (by rw [envOf_put v h2 hN, h1]) (by rw [size_put]; exact h2) (by rw [defers_put]; exact h3)
  refine wpAnyH_take hi hs hf hr (fun c a w hh => by simp only [post] at hh) (v := v) (.inl ⟨hwt, fun w' hw' => ?_⟩) H (by rw [hd]; exact hn)
  have := (hE w' hw').run w' (Below.refl _ _) oi rfl rfl
  rw [eval_eq, h1]; exact this⟩
end
section
variable {P : Program} {e : Env} {w : World} {ty t : TypeId} {x y : Operand}
theorem Ev.eqlSn {t' : TypeId} {el : TypeId} {a : Option Addr} {n c n' c' : Nat} (hU : ∀ w, (underlying t).run P w = .ok (.slice el) w) (hx : ev e x = .slice a n c) (hy : ev e y = .slice none n' c') : Ev P e w ty (.binOp .eql t x y t') (.bool a.isNone) :=
 ⟨fun w' _ o ho _ => by
  have hq : ∀ w, (Op.equal t (.slice a n c) (.slice none n' c')).run P w = .ok a.isNone w := by
   intro w
   unfold Op.equal
   rw [show Op.maxDepth = 9999 + 1 from rfl, Op.equalIn]
   cases a <;> simp [hU]
  unfold execOp; rw [ho]; simp [hx, hy, eqGuard, binOp, hq]⟩
end
end Go.W

/-
 Walks (the kit's own words): slices.Values, slices.AppendSeq, slices.Collect.
-/
set_option linter.all false
namespace Go.Proofs.YthobaaefdehoiaaGreat.It
open Go Go.RowKit Go.Shelf Go.Proofs
attribute [local go_sem] Oper.semAt_some
def uptoI (zs : List Int) (k : Nat) : List Int := (List.range k).map fun j => zs[j]?.getD 0
theorem uptoI_succ (zs : List Int) (k : Nat) : uptoI zs (k + 1) = uptoI zs k ++ [zs[k]?.getD 0] := by simp [uptoI, List.range_succ]
theorem uptoI_length (zs : List Int) (k : Nat) : (uptoI zs k).length = k := by simp [uptoI]
theorem uptoI_all (zs : List Int) : uptoI zs zs.length = zs := by
 apply List.ext_getElem
 ·simp [uptoI]
 ·intro i h1 h2
  simp [uptoI, h2]
set_option maxRecDepth 100000 in
set_option maxHeartbeats 2000000 in
theorem values1 (F : Fence) (n : Nat) (h7 : F.fn 86) (hro : F.round = none) (hn : 1 ≤ n) (l Bs n₀ b off len cap : Nat) (zs : List Int) (hreach : len * 8 ≤ 140737488351232) (hb : b < n₀) (J Jx : List Int → World → Prop)
  (hY : ∀ pre x W, J pre W → pre.length < len → YieldAt F (n - 1) Tryz.prog l #[.int .i64 x] W fun e W' =>
   (e = .returned (.bool true) ∧ J (pre ++ [x]) W' ∧ Below n₀ W W') ∨ (e = .returned (.bool false) ∧ Jx (pre ++ [x]) W'))
  (W : World) (hBs : W.cell? ⟨Bs, 0, none⟩ = some (.slice (some ⟨b, off, none⟩) len cap)) (hc : ∀ j, j < len → W.cell? ⟨b, off + j, none⟩ = some (.int .i64 (zs[j]?.getD 0))) (h0 : J [] W) :
  CallsIn F n Tryz.prog 86 #[.func (.yield l) #[] #[], .pointer (some ⟨Bs, 0, none⟩)] W fun e W' => (∃ v, e = .returned v) ∧
   (J (uptoI zs len) W' ∨ (∃ pre, Jx pre W')) := by
 refine callsIn_of_wp Tryz.func86 rfl h7 ?_ hro
 simp only [Tryz.ntmps86, List.size_toArray, List.length_cons, List.length_nil, Nat.reduceAdd, Nat.reduceSub, Array.replicate_succ, Array.replicate_zero, List.push_toArray, List.append_toArray, List.nil_append, List.cons_append]
 gi_wp2
 gi_loopw [7] (fun i wr => ∃ k : Nat, k ≤ len ∧ i = .int .i64 k ∧ J (uptoI zs k) wr ∧ Below n₀ W wr)
  (fun i _ => len - (intOf i).toNat)
 case atStart => exact ⟨0, Nat.zero_le _, rfl, h0, Below.refl _ _⟩
 case round =>
  obtain ⟨k, hk, rfl, hJs, hnx⟩ := hrel
  have hcx : k < len → wr.cell? ⟨b, off + k, none⟩ = some (.int .i64 (zs[k]?.getD 0)) := fun h => (hnx.cell (p := ⟨b, off + k, none⟩) hb).trans (hc k h)
  by_cases hlt : k < len
  ·obtain ⟨fn, tmps, assign, body, hy, hR⟩ := hY _ (zs[k]?.getD 0) wr hJs (by rw [uptoI_length]; exact hlt)
   have hcx' := hcx hlt
   gi_wp2
   refine hR.mono ?_
   rintro e W3 (⟨rfl, hJ3, hk3⟩ | ⟨rfl, hJx3⟩)
   ·gi_wp2
    go_roundw
    case rel => exact ⟨k + 1, by omega, by simp, by rw [uptoI_succ]; exact hJ3, hnx.trans hk3⟩
    case measure => simp [intOf]; omega
   ·gi_wp2
    refine bodyPost_ret (results_none rfl _ _ _) rfl ?_
    exact ⟨⟨_, rfl⟩, .inr ⟨_, hJx3⟩⟩
  ·obtain rfl : k = len := by omega
   gi_wp2
   go_end0
   exact ⟨⟨_, rfl⟩, .inl hJs⟩
set_option maxRecDepth 100000 in
set_option maxHeartbeats 1000000 in
theorem values0 (F : Fence) (n : Nat) (h7 : F.fn 86) (hro : F.round = none) (l Bs : Nat) (A : Option Addr) (cap : Nat) (J : List Int → World → Prop) (W : World) (hBs : W.cell? ⟨Bs, 0, none⟩ = some (.slice A 0 cap)) (h0 : J [] W) :
  CallsIn F n Tryz.prog 86 #[.func (.yield l) #[] #[], .pointer (some ⟨Bs, 0, none⟩)] W fun e W' => (∃ v, e = .returned v) ∧ J [] W' := by
 refine callsIn_of_wp Tryz.func86 rfl h7 ?_ hro
 simp only [Tryz.ntmps86, List.size_toArray, List.length_cons, List.length_nil, Nat.reduceAdd, Nat.reduceSub, Array.replicate_succ, Array.replicate_zero, List.push_toArray, List.append_toArray, List.nil_append, List.cons_append]
 gi_wp2
 gi_loopw [7] (fun i wr => i = .int .i64 0 ∧ J [] wr) (fun _ _ => 0)
 case atStart => exact ⟨rfl, h0⟩
 case round =>
  obtain ⟨rfl, hJs⟩ := hrel
  gi_wp2
  go_end0
  exact ⟨⟨_, rfl⟩, hJs⟩
def Ints (n₀ : Nat) (W : World) (A : Option Addr) (zs : List Int) : Prop :=
 zs = [] ∨ ∃ b off, A = some ⟨b, off, none⟩ ∧ b < n₀ ∧ ∀ j, j < zs.length → W.cell? ⟨b, off + j, none⟩ = some (.int .i64 (zs[j]?.getD 0))
theorem Ints.below {n₀ : Nat} {A B : World} (h : Below n₀ A B) {sv : Option Addr} {zs : List Int} : Ints n₀ A sv zs → Ints n₀ B sv zs
 | .inl e => .inl e
 | .inr ⟨b, off, e, hb, hc⟩ => .inr ⟨b, off, e, hb, fun j hj => (h.cell (p := ⟨b, off + j, none⟩) hb).trans (hc j hj)⟩
theorem values_stops (F : Fence) (n : Nat) (h7 : F.fn 86) (hro : F.round = none) (hn : 1 ≤ n) (Bs n₀ : Nat) (A : Option Addr) (cap : Nat) (zs : List Int) (hreach : zs.length * 8 ≤ 140737488351232) (w : World) (hBs : Bs < w.heap.size) (hn₀ : n₀ ≤ w.heap.size)
  (hc : w.cell? ⟨Bs, 0, none⟩ = some (.slice A zs.length cap)) (hI : Ints n₀ w A zs) :
  SeqStopsK F n Tryz.prog 86 #[.pointer (some ⟨Bs, 0, none⟩)] (fun x : Int => #[Value.int .i64 x]) (Below n₀) (fun ys => ys = zs) (fun _ => True) zs.length w := fun l J Jx W hW _ _ hY h0 => by
 have hc' := (hW.cell (p := ⟨Bs, 0, none⟩) hBs).trans hc
 rcases hI.below (hW.mono hn₀) with rfl | ⟨b, off, rfl, hb, hcs⟩
 ·exact (values0 F n h7 hro l Bs A cap J W hc' h0).mono fun e W' ⟨he, hj⟩ => ⟨he, .inl ⟨_, rfl, hj⟩⟩
 ·refine (values1 F n h7 hro hn l Bs n₀ b off zs.length cap zs hreach hb J Jx hY W hc' hcs h0).mono ?_
  rintro e W' ⟨he, hj | ⟨pre, hj⟩⟩
  ·exact ⟨he, .inl ⟨_, uptoI_all zs, hj⟩⟩
  ·exact ⟨he, .inr ⟨_, trivial, hj⟩⟩
theorem inf3 : (Tryz.prog.info? 3).map (fun i => (i.zero, i.size, i.bytes)) = some (some (.int .i64 0), 1, 8) := by kernel_rfl
set_option maxRecDepth 100000 in
set_option maxHeartbeats 2000000 in
theorem appendSeq (n : Nat) (hn : 3 ≤ n) (Bs : Nat) (A : Option Addr) (cap : Nat) (zs : List Int) (hlen : zs.length ≤ maxLen) (hbytes : zs.length * 8 ≤ 140737488351232) (w : World) (hBs : Bs < w.heap.size)
  (hc : w.cell? ⟨Bs, 0, none⟩ = some (.slice A zs.length cap)) (hI : Ints w.heap.size w A zs) :
  CallsIn Fence.wide n Tryz.prog 99 #[.slice none 0 0, .func (.func 86) #[] #[.pointer (some ⟨Bs, 0, none⟩)]] w fun e W' => ∃ v, e = .returned v ∧ W'.ownsRow w.heap.size 3 1 v zs.length (zs.map (Value.int .i64)) ∧ (v = .slice none 0 0 ↔ zs = []) ∧ Below w.heap.size w W' := by
 have h1 : 1 ≤ n := by omega
 obtain ⟨i0, hi, hz0, hz1, hz2⟩ := info_parts inf3
 refine callsIn_of_wp_marks Tryz.func99 rfl trivial ?_ rfl
 simp only [Tryz.ntmps99, List.size_toArray, List.length_cons, List.length_nil, Nat.reduceAdd, Nat.reduceSub, Array.replicate_succ, Array.replicate_zero, List.push_toArray, List.append_toArray, List.nil_append, List.cons_append]
 gi_wp2
 have bO := Boxed.new w 30 (.slice none 0 0)
 have hB0 : Below w.heap.size w (w.alloc (.cells #[.slice none 0 0] 30)) := (Below.refl _ w).alloc (Nat.le_refl _) _
 refine wpIn_rangeFunc_ownG rfl h1 (gf := 86) (lb := #[.pointer (some ⟨Bs, 0, none⟩)]) rfl trivial (enters_of Tryz.func86 (by kernel_rfl) rfl)
  (values_stops Fence.wide (n - 1) trivial rfl (by omega) Bs w.heap.size A cap zs hbytes _ (by simp; omega) (by simp) ((hB0.cell (p := ⟨Bs, 0, none⟩) hBs).trans hc) (hI.below hB0)) belowK_t (belowK_b (by simp)) (Below.refl _ _) (fun _ => rfl)
  (fun pre W => (∃ v, Boxed W w.heap.size 30 v ∧ W.ownsRow w.heap.size 3 1 v pre.length (pre.map (Value.int .i64)) ∧ (v = .slice none 0 0 ↔ pre = [])) ∧ Below w.heap.size w W)
  (fun _ _ _ => False)
  (OwnFrom.and (Own.from (holdsRow_own w.heap.size w.heap.size 30 3 1 (fun pre : List Int => pre.length) (fun pre => pre.map (Value.int .i64)) (fun pre v => v = .slice none 0 0 ↔ pre = [])) _) (ownFrom_below (Nat.le_refl _) (by simp)))
  (fun _ _ _ _ _ hs _ _ => hs)
  ⟨⟨_, bO, World.ownsRow_nil _ _ _ _, by simp⟩, hB0⟩
  (fun x => { tmps := #[.slice none 0 0, .func (.func 86) #[] #[.pointer (some ⟨Bs, 0, none⟩)], .pointer (some ⟨w.heap.size, 0, none⟩), undef, .slice none 0 0, .int .i64 x, .func (.func 86) #[] #[.pointer (some ⟨Bs, 0, none⟩)], .int .i64 x, undef, undef, undef, undef, undef], defers := [] }) ?assign ?body ?done ?stop
 case assign =>
  intro l x W K hK
  gi_wp2
  exact hK
 case body =>
  rintro l pre x W ⟨⟨v, hv, hrow, hnil⟩, hB⟩ hlt
  have hc := hv.cell
  gi_wp2_with (gi_at_builtin; refine wpListIn_append_own _ rfl _ _ 30 rfl w.heap.size 3 i0 (.int .i64 0) 1 8 Tryz.underlying30 hi hz0 hz1 hz2 rfl (by decide) _ _ _ rfl (hrow.alloc _) ⟨W.heap.size, 0, none⟩ 1 1 [.int .i64 x] rfl rfl (cell_one_new _ _ _) (by simp [Value.oneCell']) (by omega) (by omega) (by have := hB.size; simp; omega) ?_; intro v' w1 hown' hgrow _; obtain ⟨g', cap', rfl⟩ := ownsRow_succ hown'; obtain ⟨hv1, hv2, hr2, hk2, hb2⟩ := hv.appended (by decide) hrow hB.size (Nat.le_refl _) hown' hgrow; have hc1 := hv1.cell; have hf1 := hv1.frozen)
  exact ⟨hk2.from _, hb2, ⟨_, hv2, by simpa using hr2, by simp⟩, hB.trans hb2⟩
 case done =>
  rintro D ys W hD rfl ⟨⟨v, hv, hrow, hnil⟩, hB⟩ hK
  have hc := hv.cell
  gi_wp2
  refine ⟨by simp, .inl ⟨_, _, rfl, run_takeDeferred hK, ?_⟩⟩
  exact ⟨_, results_tmp rfl _ _ _, v, rfl, ownsRow_putObj hrow _ hK rfl, hnil, hB.trans (belowK_b (w := w) (Nat.le_refl _) W D _ _ (by simp at hD; omega) hK rfl rfl)⟩
 case stop =>
  rintro D c pre W _ _ h _
  exact h.elim
end Go.Proofs.YthobaaefdehoiaaGreat.It
