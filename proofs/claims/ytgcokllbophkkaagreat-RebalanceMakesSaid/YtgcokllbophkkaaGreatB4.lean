/-
 Walk: solve.
-/
import Derived.Test.YtgcokllbophkkaaGreatB1
import Derived.Test.YtgcokllbophkkaaGreatNest
import Derived.Test.YtgcokllbophkkaaGreatT18
import Derived.Scope
import Derived.Test.YtgcokllbophkkaaGreatFacts
import Derived.RangeFuncBox
import Derived.RangeFuncLeaves
import Derived.Shelf.Abstract
import Derived.WalkKit
import Derived.OwnWalkIn
import Derived.TacticsInMore
import Derived.LoopNIn
import Derived.LoopIn
import Derived.Maps.AppendAt
import Derived.Test.YtgcokllbophkkaaGreatProg
import Derived.Shelf.Sort.Plain
import Derived.Shelf.Slices.Reverse
import Derived.Ground.Names2Prog
import Derived.Shelf.Slices.CompactI
import Derived.Shelf.Slices.In.SortNone
import Derived.Sort.OwnSortedInts
import Derived.Test.YtgcokllbophkkaaGreatT8
set_option linter.all false
set_option maxHeartbeats 4000000
namespace Go.Proofs.YtgcokllbophkkaaGreat
open Go Go.W Go.RowKit
def bndL (s b : Int) (AU : Option Addr) (nu cu : Nat) (AV : Option Addr) (nv cv : Nat) : List Value := [I s, I b, .slice AU nu cu, .slice AV nv cv]
theorem boundNetwork2 {C D : List Int} {tm : List (List Int)} (Ac Ab At : Option Addr) (cs bs : List Need) (rs : List (SlA Int)) (kc kb kt : Nat) (cp hv wt : Int) (w0 : World) (hT : TaskAt w0 Ac Ab At cs bs rs) (hK : TaskOk cs bs rs) (hC : C = cs.map (·.move)) (hD : D = bs.map fun x => -x.move) (htm : tm = rs.map (·.l)) :
  Calls Tryz.prog 91 #[.agg (tskC Ac Ab At cs.length bs.length rs.length kc kb kt cp hv wt).toArray] w0 fun e w' => ∃ (A : Option Addr) (cap : Nat) (L : List Blk), e = .returned (.agg #[I (C.length + D.length + 2 : Nat), .slice A (netP C D tm).length cap]) ∧ Reads L (fun w => Flo.ArcsAt w A (netP C D tm)) ∧ SH w0 [] w' L := by
 have e1 : netOf cs bs rs = netP C D tm := by subst hC hD htm; simp [netOf, netP]
 have e2 : (cs.length : Int) + bs.length + 1 + 1 = (C.length + D.length + 2 : Nat) := by subst hC hD; simp; omega
 have h := boundNetwork Ac Ab At cs bs rs kc kb kt cp hv wt w0 hT hK
 rw [e1, e2] at h
 exact h
theorem sv2 {a b c d e f g : Blk} {Lu Lv : List Blk} : (a :: (([b, c, d, e, f, g] : List Blk) ++ (Lu ++ Lv))).Perm (([a, b, c, d, e, f, g] ++ Lu) ++ Lv) := perm_by fun f => by simp <;> omega
def usL (pots : List Int) (k : Nat) : List Int := (List.range k).map fun i => pots.getD (1 + i) 0
theorem usL_succ (pots : List Int) (k : Nat) : usL pots (k + 1) = usL pots k ++ [pots.getD (1 + k) 0] := by simp [usL, List.range_succ]
theorem usL_len (pots : List Int) (k : Nat) : (usL pots k).length = k := by simp [usL]
theorem usL_get (pots : List Int) {k j : Nat} (h : j < k) : (usL pots k).getD j 0 = pots.getD (1 + j) 0 := by simp [usL, h]
set_option maxRecDepth 20000 in
theorem boundSolve {C D : List Int} {tm : List (List Int)} (Ac Ab At : Option Addr) (cs bs : List Need) (rs : List (SlA Int)) (kc kb kt : Nat) (cp : Int) (w0 : World) (hT : TaskAt w0 Ac Ab At cs bs rs) (hK : TaskOk cs bs rs) (hC : C = cs.map (·.move)) (hD : D = bs.map fun x => -x.move) (htm : tm = rs.map (·.l)) (hX : Flo.Trans C D tm) (hcp : 0 ≤ cp ∧ cp ≤ 32) :
  Calls Tryz.prog 65 #[.agg (tskC Ac Ab At cs.length bs.length rs.length kc kb kt cp C.sum D.sum).toArray] w0 fun e w' =>
   (emptyB cp C.sum D.sum = true → e = .returned (.tuple #[.agg zeroB.toArray, I 10]) ∧ Below w0.heap.size w0 w') ∧
   (emptyB cp C.sum D.sum = false → ¬ Flo.Hall C D tm → e = .returned (.tuple #[.agg zeroB.toArray, I 15]) ∧ Below w0.heap.size w0 w') ∧
   (emptyB cp C.sum D.sum = false → Flo.Hall C D tm → ∃ (us vs : List Int) (T : Int) (AU AV : Option Addr) (cu cv : Nat) (L : List Blk), Flo.Solved C D tm us vs T ∧ e = .returned (.tuple #[.agg (bndL (divI T cp) D.sum AU us.length cu AV vs.length cv).toArray, I 0]) ∧ Reads L (fun w => IntsAt w AU us ∧ IntsAt w AV vs) ∧ SH w0 [] w' L) := by
 have H := SH.refl w0
 have hcl := hK.cl
 have hbl := hK.bl
 have hrl := hK.rl
 have hCl : C.length = cs.length := by rw [hC]; simp
 have hDl : D.length = bs.length := by rw [hD]; simp
 have htl : tm.length = rs.length := by rw [htm]; simp
 have hds := hX.dsum
 by_cases hHall : Flo.Hall C D tm
 ·have hHall2 := hHall
  refine Calls.ofWPc Tryz.func65 rfl Tryz.results65 Tryz.ntmps65 rfl <| Y.qr <| Y.bx (cA rfl) H ?_
  clear H; intro g1 w H
  refine Y.al H rfl rfl ?_
  clear H; intro g2 w H
  refine Y.b rfl <| Y.z <| Y.q <| Y.qr <| Y.fa rfl rfl <| Y.j H 1 rfl rfl rfl <| Y.v (Ev.eql rfl rfl) <| Y.v (Ev.mvB rfl) <| Y.g rfl rfl (fun hg => Y.f rfl rfl) <| Y.y rfl rfl H 1 (fun hg => gvE hg rfl) rfl rfl <| Y.g rfl rfl (fun hg => Y.f rfl rfl) <| Y.y rfl rfl H 1 (fun hg => gvE hg rfl) rfl rfl <| Y.g rfl rfl (fun hg => Ev.gtr (gvE hg rfl) (gvE hg rfl)) <| Y.v (Ev.pickOr rfl rfl rfl) <| Y.z ?_
  refine WP.cond rfl (fun hc1 => ?_) (fun hc1 => ?_)
  ·refine Y.qr <| Y.v (Ev.build (bld_71_ (e := fun _ => .int .i64 0))) <| Y.ss 0 H rfl (cA rfl) rfl ?_
   clear H; intro w H
   refine Y.b rfl <| Y.z ?_
   refine WP.ret ⟨[_, _], ⟨(by exact resCellA 0 H rfl (agg_run rfl) (size_run rfl) (by rfl) rfl), rfl, trivial⟩, ?_⟩
   exact ⟨fun _ => ⟨rfl, H.below⟩, fun h => absurd (show emptyB cp C.sum D.sum = true from hc1) (by rw [h]; simp), fun h => absurd (show emptyB cp C.sum D.sum = true from hc1) (by rw [h]; simp)⟩
  have hem : emptyB cp C.sum D.sum = false := hc1
  have hcp1 : 1 ≤ cp := by simp [emptyB] at hem; omega
  refine Y.k <| Y.qr <| Y.v (Y.o H 1 rfl rfl) <| OPS.call (d := some 27) rfl rfl rfl (EvC.func (fun_run rfl)) (boundNetwork2 (C := C) (D := D) (tm := tm) Ac Ab At cs bs rs kc kb kt cp C.sum D.sum w (hT.below H.below) hK hC hD htm) ?_
  rintro _ w ⟨A, cap, LA, rfl, hA, Hc⟩
  refine ⟨_, rfl, ?_⟩
  replace H := SH.call (Lv := []) (by rw [List.append_nil]; exact H) Hc
  clear Hc
  refine Y.al H rfl rfl ?_
  clear H; intro g4 w H
  refine Y.ss 0 H rfl (cA rfl) rfl ?_
  clear H; intro w H
  refine Y.z <| Y.qr <| Y.v (Y.o H 0 rfl rfl) <| Y.fa rfl rfl <| Y.j H 0 rfl rfl rfl <| Y.v (Y.s rfl rfl) <| Y.fa rfl rfl <| Y.j H 2 rfl rfl rfl ?_
  have hcheap := Calls.mono (netCheap hX A cap w (hA.at H (List.sublist_append_right [_, _, _] _))) fun _ _ h => h.2 hHall
  refine OPS.call (d := some 35) rfl rfl rfl (EvC.func (fun_run rfl)) (hcheap) ?_
  rintro _ w ⟨go, gp, on, pots, rfl, hN, hf, ho, hpl, hp0, hpb, Hc⟩
  refine ⟨_, rfl, ?_⟩
  replace H := SH.call (Lv := []) (by rw [List.append_nil]; exact H) Hc
  clear Hc hcheap
  refine Y.v (Ev.mvT rfl) <| Y.v (Ev.extract rfl rfl) <| Y.v (Ev.extract rfl rfl) <| Y.al H rfl rfl ?_
  clear H; intro g5 w H
  refine Y.ss 0 H rfl (cA rfl) rfl ?_
  clear H; intro w H
  refine Y.b rfl <| Y.z <| Y.q <| Y.qr <| Y.a rfl <| Y.v (Ev.neq rfl rfl) <| Y.z ?_
  refine WP.cond rfl (fun hc5 => ?_) (fun hc5 => ?_)
  ·refine Y.qr <| Y.v (Ev.build (bld_71_ (e := fun _ => .int .i64 0))) <| Y.ss 2 H rfl (cA rfl) rfl ?_
   clear H; intro w H
   refine Y.b rfl <| Y.z ?_
   refine WP.ret ⟨[_, _], ⟨(by exact resCellA 2 H rfl (agg_run rfl) (size_run rfl) (by rfl) rfl), rfl, trivial⟩, ?_⟩
   exact absurd hc5 (by decide)
  have hp00 : pots.getD 0 0 = 0 := hp0
  have hpg : ∀ i : Nat, 0 ≤ pots.getD i 0 ∧ pots.getD i 0 ≤ 1000000000 := fun i => by have := hpb (i : Int); simpa [Flo.potF] using this
  obtain ⟨T, hTe⟩ : ∃ T, T = Flo.costOf (netP C D tm) on := ⟨_, rfl⟩
  have hTb : 0 ≤ T ∧ T ≤ 4000000000000 := by
   have h1 := Flo.costOf_bd hN hf.v (netP C D tm).length (Nat.le_refl _)
   rw [List.take_length, List.take_of_length_le (by rw [hf.v.len]; omega)] at h1
   have := netP_len hX
   omega
  rw [← hTe] at H ⊢
  replace H : SH w0 [] w [⟨g5, 118, [I D.sum, I T, .slice (some ⟨go, 0, none⟩) on.length on.length, .slice (some ⟨gp, 0, none⟩) pots.length pots.length]⟩, ⟨g2, 71, zeroB⟩, ⟨g1, 108, tskC Ac Ab At cs.length bs.length rs.length kc kb kt cp C.sum D.sum⟩, ⟨go, 3, on.map I⟩, ⟨gp, 3, pots.map I⟩] := by
   have h := (H.reidxT (L := [_, _, _, _]) (L' := [⟨g5, 118, [I D.sum, I T, .slice (some ⟨go, 0, none⟩) on.length on.length, .slice (some ⟨gp, 0, none⟩) pots.length pots.length]⟩, ⟨g2, 71, zeroB⟩, ⟨g1, 108, tskC Ac Ab At cs.length bs.length rs.length kc kb kt cp C.sum D.sum⟩]) (Lo := LA ++ [⟨go, 3, on.map I⟩, ⟨gp, 3, pots.map I⟩]) [0, 2, 3] (by decide) rfl)
   exact h.drop (List.Sublist.append (List.Sublist.refl [_, _, _]) (List.sublist_append_right _ _))
  refine Y.k <| Y.q ?_
  refine WP.rheldC [7, 41, 42, 43, 44, 45, 46, 47, 48] (fun u w' => ∃ g7 : Nat, u 7 = .pointer (some ⟨g7, 0, none⟩) ∧ SH w0 [] w' [⟨g7, 71, bndL (divI T cp) D.sum none 0 0 none 0 0⟩, ⟨g5, 118, [I D.sum, I T, .slice (some ⟨go, 0, none⟩) on.length on.length, .slice (some ⟨gp, 0, none⟩) pots.length pots.length]⟩, ⟨g2, 71, zeroB⟩, ⟨g1, 108, tskC Ac Ab At cs.length bs.length rs.length kc kb kt cp C.sum D.sum⟩, ⟨go, 3, on.map I⟩, ⟨gp, 3, pots.map I⟩]) mixed H ?_ ?_
  ·clear H; intro w hbw7 H
   refine Y.t 0 H rfl rfl (fun w H => Y.f rfl rfl) <| Y.t 1 H rfl rfl (fun w H => Y.l H 2 rfl rfl rfl) <| Y.t 2 H rfl rfl (fun w H => Y.f rfl rfl) <| Y.t 3 H rfl rfl (fun w H => Y.l H 0 rfl rfl rfl) <| Y.t 4 H rfl rfl (fun w H => Y.f rfl rfl) <| Y.t 5 H rfl rfl (fun w H => Y.l H 2 rfl rfl rfl) ?_
   refine Y.A2 6 8 rfl rfl rfl ?_ ?_
   ·refine OPS.call (d := some 47) rfl rfl rfl (EvC.func (fun_run rfl)) (boundUp T cp _ (by omega) (by omega)) ?_
    rintro _ w ⟨rfl, hb⟩
    refine ⟨_, rfl, ?_⟩
    replace H := H.toBelow hb; clear hb
    refine Y.z <| ⟨(H), ?_⟩
    refine Y.t 7 H rfl rfl (fun w H => Ev.build (bld_71_1_0 rfl rfl)) <| Y.A1 8 rfl rfl <| Y.al H rfl rfl ?_
    clear H; intro g7 w H
    refine Y.z <| ⟨(H.drop (List.sublist_cons_self _ _)), ?_⟩
    refine Y.A1 9 rfl rfl <| Y.ss 0 H rfl (cA rfl) rfl ?_
    clear H; intro w H
    refine Y.z <| ⟨(H.drop (List.sublist_cons_self _ _)), ?_⟩
    refine Y.dn ?_
    exact ⟨Y.ag, g7, rfl, H⟩
   ·refine Y.al H rfl rfl ?_
    clear H; intro g7 w H
    refine Y.z <| ⟨(H.drop (List.sublist_cons_self _ _)), ?_⟩
    refine Y.A1 6 rfl rfl <| OPS.call (d := some 47) rfl rfl rfl (EvC.func (fun_run rfl)) (boundUp T cp _ (by omega) (by omega)) ?_
    rintro _ w ⟨rfl, hb⟩
    refine ⟨_, rfl, ?_⟩
    replace H := H.toBelow hb; clear hb
    refine Y.z <| ⟨(H.drop (List.sublist_cons_self _ _)), ?_⟩
    refine Y.t 7 (H.drop (List.sublist_cons_self _ _)) rfl rfl (fun w H => Ev.build (bld_71_1_0 rfl rfl)) <| Y.A1 9 rfl rfl <| Y.ss 0 H rfl (cA rfl) rfl ?_
    clear H; intro w H
    refine Y.z <| ⟨(H.drop (List.sublist_cons_self _ _)), ?_⟩
    refine Y.dn ?_
    exact ⟨Y.ag, g7, rfl, H⟩
  clear H
  rintro u w ⟨g7, h7, H⟩
  refine WP.know (t := 7) h7 ?_
  have hp : ∀ w, SH w0 [] w [⟨g5, 118, [I D.sum, I T, .slice (some ⟨go, 0, none⟩) on.length on.length, .slice (some ⟨gp, 0, none⟩) pots.length pots.length]⟩, ⟨g2, 71, zeroB⟩, ⟨g1, 108, tskC Ac Ab At cs.length bs.length rs.length kc kb kt cp C.sum D.sum⟩, ⟨go, 3, on.map I⟩, ⟨gp, 3, pots.map I⟩] → ∀ i, i < pots.length → w.cell? ⟨gp, 0 + i, none⟩ = some (I (pots.getD i 0)) := fun w H i hi => by rw [Nat.zero_add]; exact intCell H 4 rfl i hi
  refine Y.q <| Y.qr <| Y.fa rfl rfl <| Y.j H 3 rfl rfl rfl <| Y.v (Y.n rfl) <| Y.a rfl <| Y.z <| WP.block <| WP.loop [8, 52, 53, 54, 55, 56, 57, 58, 59, 60, 61, 62, 63, 64, 65, 66, 67, 68, 69, 70, 71, 72] (fun k e w' => ∃ (j : Nat) (AU : Option Addr) (cu : Nat) (Lu : List Blk), j + k = cs.length ∧ e 52 = I j ∧ OwnS AU cu j ((usL pots j).map I) 3 1 Lu ∧ SH w0 [] w' ([⟨g7, 71, bndL (divI T cp) D.sum AU j cu none 0 0⟩, ⟨g5, 118, [I D.sum, I T, .slice (some ⟨go, 0, none⟩) on.length on.length, .slice (some ⟨gp, 0, none⟩) pots.length pots.length]⟩, ⟨g2, 71, zeroB⟩, ⟨g1, 108, tskC Ac Ab At cs.length bs.length rs.length kc kb kt cp C.sum D.sum⟩, ⟨go, 3, on.map I⟩, ⟨gp, 3, pots.map I⟩] ++ Lu)) (cs.length) (⟨0, none, 0, [], by omega, rfl, OwnS.nil, by rw [List.append_nil]; exact H⟩) ?_
  clear H
  rintro k u w ⟨j, AU, cu, Lu, hk, h52, hOu, H⟩
  refine WP.know (t := 52) h52 <| Y.qr <| Y.v (Ev.lss rfl rfl) <| Y.z <| Y.q ?_
  refine WP.cond rfl (fun hc9 => ?_) (fun hc9 => ?_)
  ·have hlt : j < cs.length := by simpa using hc9
   have hb1 := hpg (1 + j)
   refine Y.k <| Y.q <| WP.block <| Y.qr <| Y.a rfl <| Y.b rfl <| Y.z ?_
   have E := H
   replace H := H.drop (L' := [⟨g5, 118, [I D.sum, I T, .slice (some ⟨go, 0, none⟩) on.length on.length, .slice (some ⟨gp, 0, none⟩) pots.length pots.length]⟩, ⟨g2, 71, zeroB⟩, ⟨g1, 108, tskC Ac Ab At cs.length bs.length rs.length kc kb kt cp C.sum D.sum⟩, ⟨go, 3, on.map I⟩, ⟨gp, 3, pots.map I⟩]) ((List.sublist_cons_self _ _).trans (List.sublist_append_left _ _))
   refine WP.rheldC [55, 56, 57, 58, 59, 60, 61, 62, 63, 64, 65, 66, 67, 68, 69, 70, 71] (fun _ w' => ∃ (AU : Option Addr) (cu : Nat) (Lu : List Blk), OwnS AU cu (j + 1) ((usL pots (j + 1)).map I) 3 1 Lu ∧ SH w0 [] w' ([⟨g7, 71, bndL (divI T cp) D.sum AU (j + 1) cu none 0 0⟩, ⟨g5, 118, [I D.sum, I T, .slice (some ⟨go, 0, none⟩) on.length on.length, .slice (some ⟨gp, 0, none⟩) pots.length pots.length]⟩, ⟨g2, 71, zeroB⟩, ⟨g1, 108, tskC Ac Ab At cs.length bs.length rs.length kc kb kt cp C.sum D.sum⟩, ⟨go, 3, on.map I⟩, ⟨gp, 3, pots.map I⟩] ++ Lu)) mixed H ?_ ?_
   ·clear H; intro w hbw11 H
    refine Y.t 0 H rfl rfl (fun w H => Y.f rfl rfl) <| Y.t 2 H rfl rfl (fun w H => Y.f rfl rfl) <| Y.t 3 H rfl rfl (fun w H => Y.l H 0 rfl rfl rfl) <| Y.t 4 H rfl rfl (fun w H => Y.m rfl) <| Y.t 5 H rfl rfl (fun w H => Y.p rfl rfl) <| Y.t 6 H rfl rfl (fun w H => Ev.indexAddr1 (j := 1 + j) (el_run rfl) (size_run rfl) rfl rfl (by omega) (by omega)) <| Y.t 7 H rfl rfl (fun w H => Y.c (hp w H (1 + j) (by omega)) rfl) <| Y.t 8 H rfl rfl (fun w H => Y.f rfl rfl) <| Y.t 9 H rfl rfl (fun w H => Y.l H 0 rfl rfl rfl) <| Y.t 10 H rfl rfl (fun w H => Ev.indexAddr1 (j := 0) (el_run rfl) (size_run rfl) rfl rfl rfl (by omega)) <| Y.t 11 H rfl rfl (fun w H => Y.c (hp w H 0 (by omega)) rfl) <| Y.t 12 H rfl rfl (fun w H => Y.s rfl rfl) <| Y.t 13 H rfl rfl (fun w H => Ev.max rfl rfl) ?_
    refine Y.A2 1 14 rfl rfl rfl ?_ ?_
    ·try replace E := E.toBelow hbw11
     refine Y.j E 0 rfl rfl rfl <| Y.z <| ⟨(H), ?_⟩
     refine Y.A1 14 rfl rfl ?_
     try replace E := E.toBelow hbw11
     refine OPS.buildSlice rfl rfl rfl rfl (bsl_32_1_0 rfl) E ?_
     clear H E; intro g69 w E
     have H := E.drop (L' := [⟨g5, 118, [I D.sum, I T, .slice (some ⟨go, 0, none⟩) on.length on.length, .slice (some ⟨gp, 0, none⟩) pots.length pots.length]⟩, ⟨g2, 71, zeroB⟩, ⟨g1, 108, tskC Ac Ab At cs.length bs.length rs.length kc kb kt cp C.sum D.sum⟩, ⟨go, 3, on.map I⟩, ⟨gp, 3, pots.map I⟩]) (List.Sublist.cons _ ((List.sublist_cons_self _ _).trans (List.sublist_append_left _ _)))
     refine Y.z <| ⟨(H), ?_⟩
     refine Y.A1 15 rfl rfl ?_
     have hmax : (if 0 < pots.getD (1 + j) 0 - pots.getD 0 0 then pots.getD (1 + j) 0 - pots.getD 0 0 else 0) = pots.getD (1 + j) 0 := by rw [hp00]; split <;> omega
     rw [hmax] at E
     refine OPS.append (m := 1) (news := [I (pots.getD (1 + j) 0)]) (R := [⟨g69, 3, [I (pots.getD (1 + j) 0)]⟩, ⟨g7, 71, bndL (divI T cp) D.sum AU j cu none 0 0⟩, ⟨g5, 118, [I D.sum, I T, .slice (some ⟨go, 0, none⟩) on.length on.length, .slice (some ⟨gp, 0, none⟩) pots.length pots.length]⟩, ⟨g2, 71, zeroB⟩, ⟨g1, 108, tskC Ac Ab At cs.length bs.length rs.length kc kb kt cp C.sum D.sum⟩, ⟨go, 3, on.map I⟩, ⟨gp, 3, pots.map I⟩]) rfl rfl rfl rfl rfl (sl_run rfl) rfl rfl hOu rfl (src_own E 0 rfl) rfl (by omega) (by unfold maxLen; omega) E (List.Perm.refl _) ?_
     clear H E; intro AU2 cu2 Lu2 w hOu E
     rw [show (usL pots j).map I ++ [I (pots.getD (1 + j) 0)] = (usL pots (j + 1)).map I by rw [usL_succ, List.map_append]; rfl] at hOu
     have H := E.drop (L' := [⟨g5, 118, [I D.sum, I T, .slice (some ⟨go, 0, none⟩) on.length on.length, .slice (some ⟨gp, 0, none⟩) pots.length pots.length]⟩, ⟨g2, 71, zeroB⟩, ⟨g1, 108, tskC Ac Ab At cs.length bs.length rs.length kc kb kt cp C.sum D.sum⟩, ⟨go, 3, on.map I⟩, ⟨gp, 3, pots.map I⟩]) (List.Sublist.cons _ ((List.sublist_cons_self _ _).trans (List.sublist_append_left _ _)))
     refine Y.z <| ⟨(H), ?_⟩
     refine Y.t 16 H rfl rfl (fun w H => Y.f rfl rfl) <| Y.A1 17 rfl rfl ?_
     unfold bndL at E
     refine Y.st 1 E rfl (cS rfl) rfl ?_
     clear H E; intro w E
     simp only [List.set_cons_zero, List.set_cons_succ, List.cons_append, List.nil_append, putL] at E
     have H := E.drop (L' := [⟨g5, 118, [I D.sum, I T, .slice (some ⟨go, 0, none⟩) on.length on.length, .slice (some ⟨gp, 0, none⟩) pots.length pots.length]⟩, ⟨g2, 71, zeroB⟩, ⟨g1, 108, tskC Ac Ab At cs.length bs.length rs.length kc kb kt cp C.sum D.sum⟩, ⟨go, 3, on.map I⟩, ⟨gp, 3, pots.map I⟩]) (List.Sublist.cons _ (List.Sublist.cons _ (List.sublist_append_left [_, _, _, _, _] _)))
     refine Y.z <| ⟨(H), ?_⟩
     refine Y.dn ?_
     exact ⟨Y.ag, _, _, _, hOu, E.drop (List.sublist_cons_self _ _)⟩
    ·try replace E := E.toBelow hbw11
     refine OPS.buildSlice rfl rfl rfl rfl (bsl_32_1_0 rfl) E ?_
     clear H E; intro g69 w E
     have H := E.drop (L' := [⟨g5, 118, [I D.sum, I T, .slice (some ⟨go, 0, none⟩) on.length on.length, .slice (some ⟨gp, 0, none⟩) pots.length pots.length]⟩, ⟨g2, 71, zeroB⟩, ⟨g1, 108, tskC Ac Ab At cs.length bs.length rs.length kc kb kt cp C.sum D.sum⟩, ⟨go, 3, on.map I⟩, ⟨gp, 3, pots.map I⟩]) (List.Sublist.cons _ ((List.sublist_cons_self _ _).trans (List.sublist_append_left _ _)))
     refine Y.z <| ⟨(H), ?_⟩
     refine Y.A1 1 rfl rfl ?_
     try replace E := E.toBelow hbw11
     refine Y.j E 1 rfl rfl rfl <| Y.z <| ⟨(H), ?_⟩
     refine Y.A1 15 rfl rfl ?_
     have hmax : (if 0 < pots.getD (1 + j) 0 - pots.getD 0 0 then pots.getD (1 + j) 0 - pots.getD 0 0 else 0) = pots.getD (1 + j) 0 := by rw [hp00]; split <;> omega
     rw [hmax] at E
     refine OPS.append (m := 1) (news := [I (pots.getD (1 + j) 0)]) (R := [⟨g69, 3, [I (pots.getD (1 + j) 0)]⟩, ⟨g7, 71, bndL (divI T cp) D.sum AU j cu none 0 0⟩, ⟨g5, 118, [I D.sum, I T, .slice (some ⟨go, 0, none⟩) on.length on.length, .slice (some ⟨gp, 0, none⟩) pots.length pots.length]⟩, ⟨g2, 71, zeroB⟩, ⟨g1, 108, tskC Ac Ab At cs.length bs.length rs.length kc kb kt cp C.sum D.sum⟩, ⟨go, 3, on.map I⟩, ⟨gp, 3, pots.map I⟩]) rfl rfl rfl rfl rfl (sl_run rfl) rfl rfl hOu rfl (src_own E 0 rfl) rfl (by omega) (by unfold maxLen; omega) E (List.Perm.refl _) ?_
     clear H E; intro AU2 cu2 Lu2 w hOu E
     rw [show (usL pots j).map I ++ [I (pots.getD (1 + j) 0)] = (usL pots (j + 1)).map I by rw [usL_succ, List.map_append]; rfl] at hOu
     have H := E.drop (L' := [⟨g5, 118, [I D.sum, I T, .slice (some ⟨go, 0, none⟩) on.length on.length, .slice (some ⟨gp, 0, none⟩) pots.length pots.length]⟩, ⟨g2, 71, zeroB⟩, ⟨g1, 108, tskC Ac Ab At cs.length bs.length rs.length kc kb kt cp C.sum D.sum⟩, ⟨go, 3, on.map I⟩, ⟨gp, 3, pots.map I⟩]) (List.Sublist.cons _ ((List.sublist_cons_self _ _).trans (List.sublist_append_left _ _)))
     refine Y.z <| ⟨(H), ?_⟩
     refine Y.t 16 H rfl rfl (fun w H => Y.f rfl rfl) <| Y.A1 17 rfl rfl ?_
     unfold bndL at E
     refine Y.st 1 E rfl (cS rfl) rfl ?_
     clear H E; intro w E
     simp only [List.set_cons_zero, List.set_cons_succ, List.cons_append, List.nil_append, putL] at E
     have H := E.drop (L' := [⟨g5, 118, [I D.sum, I T, .slice (some ⟨go, 0, none⟩) on.length on.length, .slice (some ⟨gp, 0, none⟩) pots.length pots.length]⟩, ⟨g2, 71, zeroB⟩, ⟨g1, 108, tskC Ac Ab At cs.length bs.length rs.length kc kb kt cp C.sum D.sum⟩, ⟨go, 3, on.map I⟩, ⟨gp, 3, pots.map I⟩]) (List.Sublist.cons _ (List.Sublist.cons _ (List.sublist_append_left [_, _, _, _, _] _)))
     refine Y.z <| ⟨(H), ?_⟩
     refine Y.dn ?_
     exact ⟨Y.ag, _, _, _, hOu, E.drop (List.sublist_cons_self _ _)⟩
   clear H
   rintro u w ⟨AU, cu, Lu, hOu, H⟩
   refine Y.r <| Y.v (Y.p rfl rfl) <| Y.a rfl <| Y.z ?_
   exact ⟨Y.ag, k - 1, by omega, j + 1, AU, cu, Lu, by omega, rfl, hOu, H⟩
  have hj : j = cs.length := by simp at hc9; omega
  subst hj
  obtain ⟨us, hus⟩ : ∃ us, us = usL pots cs.length := ⟨_, rfl⟩
  have husl : us.length = cs.length := by rw [hus]; exact usL_len _ _
  have husg : ∀ j, j < cs.length → us.getD j 0 = pots.getD (1 + j) 0 := fun j hj => by rw [hus]; exact usL_get _ hj
  have husb : ∀ j, 0 ≤ us.getD j 0 ∧ us.getD j 0 ≤ 1000000000 := fun j => by
   by_cases hj : j < cs.length
   ·rw [husg j hj]; exact hpg _
   ·simp [show ¬ j < us.length by omega]
  rw [← hus] at hOu
  have hrU : ∀ w R, SH w0 [] w (R ++ Lu) → IntsAt w AU us := fun w R H => (hOu.ones H).1
  refine WP.exit <| XB.hit <| Y.q <| Y.qr <| Y.fa rfl rfl <| Y.j H 3 rfl rfl rfl <| Y.v (Y.n rfl) <| Y.a rfl <| Y.z <| WP.block <| WP.loop [9, 10, 11, 12, 13, 14, 76, 77, 78, 79, 80, 81, 82, 83, 84, 85, 86, 87, 88, 89, 90, 91, 92, 93, 94, 95, 96, 97, 98, 99, 100, 101, 102, 103, 104, 105, 106, 107, 108, 109, 110, 111, 112, 113, 114, 115, 116, 117, 118] (fun k e w' => ∃ (q : Nat) (AV : Option Addr) (cv : Nat) (Lv : List Blk) (vs : List Int), q + k = bs.length ∧ e 76 = I q ∧ vs.length = q ∧ (∀ i, i < q → ∃ found, Flo.VMin tm (fun j => us.getD j 0) i cs.length (vs.getD i 0) found) ∧ OwnS AV cv q (vs.map I) 3 1 Lv ∧ SH w0 [] w' ([⟨g7, 71, bndL (divI T cp) D.sum AU cs.length cu AV q cv⟩, ⟨g5, 118, [I D.sum, I T, .slice (some ⟨go, 0, none⟩) on.length on.length, .slice (some ⟨gp, 0, none⟩) pots.length pots.length]⟩, ⟨g2, 71, zeroB⟩, ⟨g1, 108, tskC Ac Ab At cs.length bs.length rs.length kc kb kt cp C.sum D.sum⟩, ⟨go, 3, on.map I⟩, ⟨gp, 3, pots.map I⟩] ++ (Lu ++ Lv))) (bs.length) (⟨0, none, 0, [], [], by omega, rfl, rfl, (fun i h => absurd h (by omega)), OwnS.nil, by rw [List.append_nil]; exact H⟩) ?_
  clear H
  rintro k u w ⟨q, AV, cv, Lv, vs, hk, h76, hvl, hvm, hOv, H⟩
  refine WP.know (t := 76) h76 <| Y.qr <| Y.v (Ev.lss rfl rfl) <| Y.z <| Y.q ?_
  refine WP.cond rfl (fun hc14 => ?_) (fun hc14 => ?_)
  ·have hltq : q < bs.length := by simpa using hc14
   refine Y.k <| Y.q <| WP.block <| Y.qr <| Y.a rfl <| Y.b rfl <| Y.z <| Y.qr <| Y.b rfl <| Y.v (Ev.asB rfl) <| Y.z <| Y.q <| Y.q ?_
   unfold bndL at H
   refine Y.r <| Y.fa rfl rfl <| Y.j H 0 rfl rfl rfl <| Y.v (Y.n rfl) <| Y.a rfl <| Y.z <| WP.block <| WP.loop [10, 11, 12, 13, 14, 82, 83, 84, 85, 86, 87, 88, 89, 90, 91, 92, 93, 94, 95, 96, 97, 98, 99, 100, 101, 102, 103, 104, 105, 106, 107, 108, 109, 110, 111] (fun k e w' => ∃ (i : Nat) (v : Int) (found : Bool), i + k = cs.length ∧ e 82 = I i ∧ e 10 = I v ∧ e 11 = Bo found ∧ Flo.VMin tm (fun j => us.getD j 0) q i v found ∧ (0 ≤ v ∧ v ≤ 2000000000) ∧ SH w0 [] w' ([⟨g7, 71, bndL (divI T cp) D.sum AU cs.length cu AV q cv⟩, ⟨g5, 118, [I D.sum, I T, .slice (some ⟨go, 0, none⟩) on.length on.length, .slice (some ⟨gp, 0, none⟩) pots.length pots.length]⟩, ⟨g2, 71, zeroB⟩, ⟨g1, 108, tskC Ac Ab At cs.length bs.length rs.length kc kb kt cp C.sum D.sum⟩, ⟨go, 3, on.map I⟩, ⟨gp, 3, pots.map I⟩] ++ (Lu ++ Lv))) (cs.length) (⟨0, 0, false, by omega, rfl, rfl, rfl, Flo.VMin.zero, by omega, H⟩) ?_
   clear H
   rintro k2 u2 w ⟨i, v, found, hk2, h82, h10, h11, hVM, hvb, H⟩
   refine WP.know (t := 82) h82 (WP.know (t := 10) h10 (WP.know (t := 11) h11 ?_))
   refine Y.qr <| Y.v (Ev.lss rfl rfl) <| Y.z <| Y.q ?_
   refine WP.cond rfl (fun hc18 => ?_) (fun hc18 => ?_)
   ·have hlti : i < cs.length := by simpa using hc18
    obtain ⟨bu, ou, rfl, hxu⟩ := hrU w _ (H.drop (List.Sublist.append (List.Sublist.refl _) (List.sublist_append_left Lu Lv))) i (by omega)
    have hug : us[i]'(by omega) = us.getD i 0 := by simp [show i < us.length by omega]
    rw [hug] at hxu
    have hub := husb i
    obtain ⟨r, hre⟩ : ∃ r, r = rs[i]'(by omega) := ⟨_, rfl⟩
    have hrm : r ∈ rs := by rw [hre]; exact List.getElem_mem _
    have hrI := hT.r r hrm
    have hrb := hK.row r hrm
    obtain ⟨bt, ot, rfl, hxt⟩ := hT.t i (by omega)
    rw [← hre] at hxt
    have hxe : Flo.tmAt tm i q = some (r.l[q]'(by omega)) := by
     have e1 : (rs.map (·.l))[i]? = some r.l := by simp [show i < rs.length by omega, ← hre]
     rw [← htm] at e1
     unfold Flo.tmAt
     rw [e1]
     simp [show q < r.l.length by omega]
    clear hre hrm
    obtain ⟨rA, rc, rl⟩ := r
    simp only [slV] at hxt hrI hrb hxe
    obtain ⟨br, orr, rfl, hxr⟩ := hrI q (by omega)
    obtain ⟨x, hx⟩ : ∃ x, x = rl[q]'(by omega) := ⟨_, rfl⟩
    rw [← hx] at hxr hxe
    have hxb := hX.tb i q x hxe
    have hstep := hVM.step hxe
    unfold bndL at H
    refine Y.k <| Y.q <| WP.block <| Y.qr <| Y.a rfl <| Y.v (Y.x rfl rfl rfl rfl) <| Y.v (Y.c (by assumption) rfl) ?_
    refine Y.b rfl <| Y.b rfl <| Y.z <| Y.qr <| Y.fa rfl rfl <| Y.j H 3 rfl rfl rfl <| Y.a rfl <| Y.v (Y.x rfl rfl rfl rfl) <| Y.v (Y.c (H.ld0 (by assumption)) rfl) ?_
    refine Y.a rfl <| Y.v (Y.x rfl rfl rfl rfl) <| Y.v (Y.c (H.ld0 (by assumption)) rfl) ?_
    refine Y.b rfl <| Y.z <| Y.qr <| Y.a rfl <| Y.v (Ev.geq rfl rfl) <| Y.v (Ev.mvB rfl) <| Y.g rfl rfl (fun hg => Ev.mvB rfl) <| Y.g rfl rfl (fun hg => Ev.not (gvE hg rfl)) <| Y.g rfl rfl (fun hg => Ev.mvB (gvE hg rfl)) <| OPS.gvalN rfl rfl (GB.g rfl) rfl rfl (fun hg => Ev.mvI rfl) <| OPS.gvalN rfl rfl (GB.g rfl) rfl rfl (fun hg => Ev.mvI rfl) <| OPS.gvalN rfl rfl (GB.g rfl) rfl rfl (fun hg => Ev.add (gvE hg rfl) (gvE hg rfl) (by unfold fits; omega)) <| OPS.gvalN rfl rfl (GB.g rfl) rfl rfl (fun hg => Ev.mvI rfl) <| OPS.gvalN rfl rfl (GB.g rfl) rfl rfl (fun hg => Ev.lss (gvE hg rfl) (gvE hg rfl)) <| Y.g rfl rfl (fun hg => Ev.pickOr2 (beqT hg) (gvE hg rfl) rfl rfl) <| Y.v (Ev.pickAnd rfl rfl rfl) <| Y.z ?_
    refine WP.cond rfl (fun hc21 => ?_) (fun hc21 => ?_)
    ·have hcd : (decide (0 ≤ x) && (!found || decide (x + us.getD i 0 < v))) = true := hc21
     have hx0 : 0 ≤ x := by simp at hcd; exact hcd.1
     rw [if_pos hcd, show (found || decide (0 ≤ x)) = true by simp [hx0]] at hstep
     have hvb2 : 0 ≤ x + us.getD i 0 ∧ x + us.getD i 0 ≤ 2000000000 := by omega
     refine Y.r <| Y.a rfl <| Y.a rfl <| Y.v (Y.p rfl rfl) <| Y.b rfl <| Y.v (Ev.asB rfl) <| Y.z <| Y.r <| Y.v (Y.p rfl rfl) <| Y.a rfl <| Y.z ?_
     exact ⟨Y.ag, k2 - 1, by omega, i + 1, _, _, by omega, rfl, rfl, rfl, hstep, hvb2, H⟩
    have hcd : (decide (0 ≤ x) && (!found || decide (x + us.getD i 0 < v))) = false := hc21
    rw [if_neg (by rw [hcd]; simp), show (found || decide (0 ≤ x)) = found by
     cases found with
     | true => rfl
     | false => simp at hcd; simp; omega] at hstep
    have hvb2 := hvb
    refine Y.k <| Y.r <| Y.v (Y.p rfl rfl) <| Y.a rfl <| Y.z ?_
    exact ⟨Y.ag, k2 - 1, by omega, i + 1, _, _, by omega, rfl, rfl, rfl, hstep, hvb2, H⟩
   have hi : i = cs.length := by simp at hc18; omega
   subst hi
   refine WP.exit <| XB.hit <| Y.r <| Y.fa rfl rfl <| Y.j H 0 rfl rfl rfl <| Y.a rfl <| OPS.buildSlice rfl rfl rfl rfl (bsl_32_1_0 rfl) H ?_
   clear H; intro g115 w H
   refine OPS.append (m := 1) (news := [I v]) (R := [⟨g115, 3, [I v]⟩, ⟨g7, 71, bndL (divI T cp) D.sum AU cs.length cu AV q cv⟩, ⟨g5, 118, [I D.sum, I T, .slice (some ⟨go, 0, none⟩) on.length on.length, .slice (some ⟨gp, 0, none⟩) pots.length pots.length]⟩, ⟨g2, 71, zeroB⟩, ⟨g1, 108, tskC Ac Ab At cs.length bs.length rs.length kc kb kt cp C.sum D.sum⟩, ⟨go, 3, on.map I⟩, ⟨gp, 3, pots.map I⟩] ++ Lu) rfl rfl rfl rfl rfl (sl_run rfl) rfl rfl hOv rfl (src_own H 0 rfl) rfl (by omega) (by unfold maxLen; omega) H sv2 ?_
   clear H hOv; intro AV cv Lv w hOv H
   unfold bndL at H
   simp only [List.cons_append, List.nil_append] at H
   refine Y.fa rfl rfl <| Y.ss 1 H rfl (cS rfl) rfl ?_
   clear H; intro w H
   refine Y.z <| Y.r <| Y.v (Y.p rfl rfl) <| Y.a rfl <| Y.z ?_
   refine ⟨Y.ag, k - 1, by omega, q + 1, AV, cv, Lv, vs ++ [v], by omega, rfl, by simp [hvl], fun i hi => ?_, (by rw [List.map_append]; exact hOv), ?_⟩
   ·by_cases hiq : i = q
    ·subst hiq
     refine ⟨found, ?_⟩
     have e : (vs ++ [v]).getD i 0 = v := by rw [← hvl]; simp
     rw [e]; exact hVM
    ·obtain ⟨f, hf⟩ := hvm i (by omega)
     refine ⟨f, ?_⟩
     have e : (vs ++ [v]).getD i 0 = vs.getD i 0 := by simp [List.getElem?_append_left (show i < vs.length by omega)]
     rw [e]; exact hf
   ·exact H.drop (List.sublist_cons_self _ _)
  have hq : q = bs.length := by simp at hc14; omega
  subst hq
  have hsol : Flo.Solved C D tm us vs T := by
   rw [hTe]
   refine Flo.solved_of hX hN (Flo.stand_p C D) (.inl rfl) hf ho hp0 hpb (by omega) (fun j hj => ?_) (by omega) (fun k hk => ?_) ⟨on, hf, rfl⟩
   ·rw [husg j (by omega)]; unfold Flo.potF; rw [show ((1 : Int) + (j : Int)).toNat = 1 + j by omega]
   ·rw [hCl]; exact hvm k (by omega)
  unfold bndL zeroB at H
  simp only [List.cons_append, List.nil_append] at H
  refine WP.exit <| XB.hit <| Y.qr <| Y.v (Y.o H 0 rfl rfl) <| Y.ss 2 H rfl (cA rfl) rfl ?_
  clear H; intro w H
  refine Y.b rfl <| Y.z ?_
  refine WP.ret ⟨[_, _], ⟨(by exact resCellA 2 H rfl (agg_run rfl) (size_run rfl) (by rfl) rfl), rfl, trivial⟩, ?_⟩
  have H2 : SH w0 [] w ([_, _, _, _, _, _] ++ (Lu ++ Lv)) := H
  refine ⟨fun h => absurd hem (by rw [h]; simp), fun _ h => absurd hHall h, fun _ _ => ⟨us, vs, T, AU, AV, cu, cv, Lu ++ Lv, hsol, ?_, fun w0 S w H => ?_, H2.drop (List.sublist_append_right _ _)⟩⟩
  ·rw [husl, hvl]; rfl
  ·exact ⟨(hOu.ones (R := Lv) (H.perm List.perm_append_comm)).1, (hOv.ones H).1⟩
 ·have hHall2 := hHall
  refine Calls.ofWPc Tryz.func65 rfl Tryz.results65 Tryz.ntmps65 rfl <| Y.qr <| Y.bx (cA rfl) H ?_
  clear H; intro g1 w H
  refine Y.al H rfl rfl ?_
  clear H; intro g2 w H
  refine Y.b rfl <| Y.z <| Y.q <| Y.qr <| Y.fa rfl rfl <| Y.j H 1 rfl rfl rfl <| Y.v (Ev.eql rfl rfl) <| Y.v (Ev.mvB rfl) <| Y.g rfl rfl (fun hg => Y.f rfl rfl) <| Y.y rfl rfl H 1 (fun hg => gvE hg rfl) rfl rfl <| Y.g rfl rfl (fun hg => Y.f rfl rfl) <| Y.y rfl rfl H 1 (fun hg => gvE hg rfl) rfl rfl <| Y.g rfl rfl (fun hg => Ev.gtr (gvE hg rfl) (gvE hg rfl)) <| Y.v (Ev.pickOr rfl rfl rfl) <| Y.z ?_
  refine WP.cond rfl (fun hc1 => ?_) (fun hc1 => ?_)
  ·refine Y.qr <| Y.v (Ev.build (bld_71_ (e := fun _ => .int .i64 0))) <| Y.ss 0 H rfl (cA rfl) rfl ?_
   clear H; intro w H
   refine Y.b rfl <| Y.z ?_
   refine WP.ret ⟨[_, _], ⟨(by exact resCellA 0 H rfl (agg_run rfl) (size_run rfl) (by rfl) rfl), rfl, trivial⟩, ?_⟩
   exact ⟨fun _ => ⟨rfl, H.below⟩, fun h => absurd (show emptyB cp C.sum D.sum = true from hc1) (by rw [h]; simp), fun h => absurd (show emptyB cp C.sum D.sum = true from hc1) (by rw [h]; simp)⟩
  have hem : emptyB cp C.sum D.sum = false := hc1
  refine Y.k <| Y.qr <| Y.v (Y.o H 1 rfl rfl) <| OPS.call (d := some 27) rfl rfl rfl (EvC.func (fun_run rfl)) (boundNetwork2 (C := C) (D := D) (tm := tm) Ac Ab At cs bs rs kc kb kt cp C.sum D.sum w (hT.below H.below) hK hC hD htm) ?_
  rintro _ w ⟨A, cap, LA, rfl, hA, Hc⟩
  refine ⟨_, rfl, ?_⟩
  replace H := SH.call (Lv := []) (by rw [List.append_nil]; exact H) Hc
  clear Hc
  refine Y.al H rfl rfl ?_
  clear H; intro g4 w H
  refine Y.ss 0 H rfl (cA rfl) rfl ?_
  clear H; intro w H
  refine Y.z <| Y.qr <| Y.v (Y.o H 0 rfl rfl) <| Y.fa rfl rfl <| Y.j H 0 rfl rfl rfl <| Y.v (Y.s rfl rfl) <| Y.fa rfl rfl <| Y.j H 2 rfl rfl rfl ?_
  have hcheap := Calls.mono (netCheap hX A cap w (hA.at H (List.sublist_append_right [_, _, _] _))) fun _ _ h => h.1 hHall
  refine OPS.call (d := some 35) rfl rfl rfl (EvC.func (fun_run rfl)) (hcheap) ?_
  rintro _ w ⟨rfl, hb⟩
  refine ⟨_, rfl, ?_⟩
  replace H := H.toBelow hb; clear hb
  refine Y.v (Ev.mvT rfl) <| Y.v (Ev.extract rfl rfl) <| Y.v (Ev.extract rfl rfl) <| Y.al H rfl rfl ?_
  clear H; intro g5 w H
  refine Y.ss 0 H rfl (cA rfl) rfl ?_
  clear H; intro w H
  refine Y.b rfl <| Y.z <| Y.q <| Y.qr <| Y.a rfl <| Y.v (Ev.neq rfl rfl) <| Y.z ?_
  refine WP.cond rfl (fun hc5 => ?_) (fun hc5 => ?_)
  ·refine Y.qr <| Y.v (Ev.build (bld_71_ (e := fun _ => .int .i64 0))) <| Y.ss 2 H rfl (cA rfl) rfl ?_
   clear H; intro w H
   refine Y.b rfl <| Y.z ?_
   refine WP.ret ⟨[_, _], ⟨(by exact resCellA 2 H rfl (agg_run rfl) (size_run rfl) (by rfl) rfl), rfl, trivial⟩, ?_⟩
   exact ⟨fun h => absurd hem (by rw [h]; simp), fun _ _ => ⟨rfl, H.below⟩, fun _ h => absurd h hHall⟩
  refine Y.k <| Y.q ?_
  exact absurd hc5 (by decide)
end Go.Proofs.YtgcokllbophkkaaGreat
namespace Go.Proofs.YtgcokllbophkkaaGreat
open Go Go.W Go.RowKit
theorem timL_at {m : Nat} {l : List Edg} {ns : List Need} {j k : Nat} {x : Int} (h : Flo.tmAt (timL m l ns) j k = some x) : ∃ (hj : j < (colN ns).length) (hk : k < (briN ns).length), x = roadT m l (colN ns)[j].node.toNat (briN ns)[k].node.toNat := by
 unfold Flo.tmAt timL at h
 rw [List.getElem?_map] at h
 cases hj : (colN ns)[j]? with
 | none => rw [hj] at h; simp at h
 | some a =>
  rw [hj] at h
  simp only [Option.map_some, Option.bind_some, List.getElem?_map] at h
  cases hk : (briN ns)[k]? with
  | none => rw [hk] at h; simp at h
  | some b =>
   rw [hk] at h
   simp at h
   obtain ⟨h1, h2⟩ := List.getElem?_eq_some_iff.1 hj
   obtain ⟨h3, h4⟩ := List.getElem?_eq_some_iff.1 hk
   exact ⟨h1, h3, by rw [← h, h2, h4]⟩
theorem timL_some {m : Nat} {l : List Edg} {ns : List Need} {j k : Nat} (hj : j < (colN ns).length) (hk : k < (briN ns).length) : Flo.tmAt (timL m l ns) j k = some (roadT m l (colN ns)[j].node.toNat (briN ns)[k].node.toNat) := by
 unfold Flo.tmAt timL
 simp [hj, hk]
theorem trans_ok {m : Nat} {l : List Edg} {ts : List Truck} {ns : List Need} {hd : Int} (hK : NightOk m l ts ns hd) : Flo.Trans (movC ns) (movD ns) (timL m l ns) := by
 have hl1 : (colN ns).length ≤ ns.length := List.length_filter_le _ _
 have hl2 : (briN ns).length ≤ ns.length := List.length_filter_le _ _
 have hnl := hK.nl
 have hcl : (movC ns).length = (colN ns).length := by simp [movC]
 have hdl : (movD ns).length = (briN ns).length := by simp [movD]
 have hdb : ∀ d ∈ movD ns, 1 ≤ d ∧ d ≤ 32 := fun d hd => by
  obtain ⟨y, hy, rfl⟩ := List.mem_map.1 hd
  obtain ⟨h1, h2⟩ := List.mem_filter.1 hy
  have := hK.nd y h1
  simp at h2; omega
 refine ⟨⟨by simp [timL, movC], fun j k x hx => ?_, fun d hd => by have := hdb d hd; omega⟩, fun c hc => ?_, hdb, by omega, by omega, fun j k x hx => ?_, fun j k hj hk => ⟨_, timL_some (by omega) (by omega)⟩⟩
 ·obtain ⟨h1, h2, _⟩ := timL_at hx; omega
 ·obtain ⟨y, hy, rfl⟩ := List.mem_map.1 hc
  obtain ⟨h1, h2⟩ := List.mem_filter.1 hy
  have := hK.nd y h1
  simp at h2; omega
 ·obtain ⟨h1, h2, rfl⟩ := timL_at hx
  have a1 := hK.nd (colN ns)[j] (List.mem_filter.1 (List.getElem_mem h1)).1
  have a2 := hK.nd (briN ns)[k] (List.mem_filter.1 (List.getElem_mem h2)).1
  exact roadT_bd hK.road (by omega) (by omega)
theorem task_ok {m : Nat} {l : List Edg} {ts : List Truck} {ns : List Need} {hd : Int} {rs : List (SlA Int)} (hK : NightOk m l ts ns hd) (hr : rs.map (·.l) = timL m l ns) : TaskOk (colN ns) (briN ns) rs := by
 have hl1 : (colN ns).length ≤ ns.length := List.length_filter_le _ _
 have hl2 : (briN ns).length ≤ ns.length := List.length_filter_le _ _
 have hnl := hK.nl
 refine ⟨by omega, by omega, ?_, fun r h => ?_, fun x hx => ?_, fun x hx => ?_⟩
 ·have := congrArg List.length hr
  simpa [timL] using this
 ·have : r.l ∈ timL m l ns := by rw [← hr]; exact List.mem_map_of_mem h
  obtain ⟨y, _, hy⟩ := List.mem_map.1 this
  rw [← hy]; simp
 ·have := hK.nd x (List.mem_filter.1 hx).1; omega
 ·have := hK.nd x (List.mem_filter.1 hx).1; omega
theorem capL_bd {m : Nat} {l : List Edg} {ts : List Truck} {ns : List Need} {hd : Int} (hK : NightOk m l ts ns hd) : 0 ≤ capL ts ∧ capL ts ≤ 32 := by
 have h : ∀ j, j ≤ ts.length → 0 ≤ capL (ts.take j) ∧ capL (ts.take j) ≤ 32 := fun j => by
  induction j with
  | zero => intro _; simp [capL]
  | succ j ih =>
   intro hj
   have := ih (by omega)
   have := hK.tr ts[j] (List.getElem_mem (by omega))
   rw [capL_take (show j < ts.length by omega)]
   split <;> omega
 have := h ts.length (Nat.le_refl _)
 rwa [List.take_length] at this
open Classical in
noncomputable def solveErr (cp : Int) (C D : List Int) (tm : List (List Int)) : Int := if emptyB cp C.sum D.sum = true then 10 else if Flo.Hall C D tm then 0 else 15
theorem boundSolveU {C D : List Int} {tm : List (List Int)} (Ac Ab At : Option Addr) (cs bs : List Need) (rs : List (SlA Int)) (kc kb kt : Nat) (cp : Int) (w0 : World) (hT : TaskAt w0 Ac Ab At cs bs rs) (hK : TaskOk cs bs rs) (hC : C = cs.map (·.move)) (hD : D = bs.map fun x => -x.move) (htm : tm = rs.map (·.l)) (hX : Flo.Trans C D tm) (hcp : 0 ≤ cp ∧ cp ≤ 32) :
  Calls Tryz.prog 65 #[.agg (tskC Ac Ab At cs.length bs.length rs.length kc kb kt cp C.sum D.sum).toArray] w0 fun e w' => ∃ (s b : Int) (us vs : List Int) (AU AV : Option Addr) (cu cv : Nat) (L : List Blk),
   e = .returned (.tuple #[.agg (bndL s b AU us.length cu AV vs.length cv).toArray, I (solveErr cp C D tm)]) ∧ (solveErr cp C D tm ≠ 0 → s = 0 ∧ b = 0 ∧ us = [] ∧ vs = []) ∧ (solveErr cp C D tm = 0 → ∃ T, Flo.Solved C D tm us vs T ∧ s = divI T cp ∧ b = D.sum ∧ 1 ≤ cp) ∧ Reads L (fun w => IntsAt w AU us ∧ IntsAt w AV vs) ∧ SH w0 [] w' L :=
 (boundSolve Ac Ab At cs bs rs kc kb kt cp w0 hT hK hC hD htm hX hcp).mono fun e w' ⟨h1, h2, h3⟩ => by
  cases he : emptyB cp C.sum D.sum with
  | true =>
   obtain ⟨rfl, hb⟩ := h1 he
   have hs : solveErr cp C D tm = 10 := by rw [solveErr, if_pos he]
   exact ⟨0, 0, [], [], none, none, 0, 0, [], by rw [hs]; rfl, fun _ => ⟨rfl, rfl, rfl, rfl⟩, (fun h => by rw [hs] at h; cases h), fun _ _ _ _ => ⟨OnesAt.nil, OnesAt.nil⟩, (SH.refl w0).toBelow hb⟩
  | false =>
   by_cases hH : Flo.Hall C D tm
   ·obtain ⟨us, vs, T, AU, AV, cu, cv, L, g1, rfl, g2, g3⟩ := h3 he hH
    have hs : solveErr cp C D tm = 0 := by rw [solveErr, if_neg (by rw [he]; simp), if_pos hH]
    refine ⟨divI T cp, D.sum, us, vs, AU, AV, cu, cv, L, by rw [hs], fun h => absurd hs h, fun _ => ⟨T, g1, rfl, rfl, ?_⟩, g2, g3⟩
    simp [emptyB] at he; omega
   ·obtain ⟨rfl, hb⟩ := h2 he hH
    have hs : solveErr cp C D tm = 15 := by rw [solveErr, if_neg (by rw [he]; simp), if_neg hH]
    exact ⟨0, 0, [], [], none, none, 0, 0, [], by rw [hs]; rfl, fun _ => ⟨rfl, rfl, rfl, rfl⟩, (fun h => by rw [hs] at h; cases h), fun _ _ _ _ => ⟨OnesAt.nil, OnesAt.nil⟩, (SH.refl w0).toBelow hb⟩
noncomputable def findErr (n : Int) (l : List Edg) (ts : List Truck) (ns : List Need) (hd : Int) : Int := if nightErr n l ts ns hd ≠ 0 then nightErr n l ts ns hd else solveErr (capL ts) (movC ns) (movD ns) (timL n.toNat l ns)
structure FindRet (n : Int) (l : List Edg) (ts : List Truck) (ns : List Need) (hd s b : Int) (us vs : List Int) : Prop where
 bad : findErr n l ts ns hd ≠ 0 → s = 0 ∧ b = 0 ∧ us = [] ∧ vs = []
 good : findErr n l ts ns hd = 0 → ∃ (m : Nat) (T : Int), n = m ∧ NightOk m l ts ns hd ∧ Flo.Solved (movC ns) (movD ns) (timL m l ns) us vs T ∧ s = divI T (capL ts) ∧ b = (movD ns).sum ∧ 1 ≤ capL ts
theorem boundFind (n hd : Int) (A B C : Option Addr) (l : List Edg) (ts : List Truck) (ns : List Need) (ca cb cc : Nat) (w0 : World) (hN : NightAt w0 A B C l ts ns cc) :
  Calls Tryz.prog 39 #[.agg #[I n, .slice A l.length ca, .slice B ts.length cb, .slice C ns.length cc, I hd]] w0 fun e w' => ∃ (s b : Int) (us vs : List Int) (AU AV : Option Addr) (cu cv : Nat) (L : List Blk),
   e = .returned (.tuple #[.agg (bndL s b AU us.length cu AV vs.length cv).toArray, I (findErr n l ts ns hd)]) ∧ FindRet n l ts ns hd s b us vs ∧ Reads L (fun w => IntsAt w AU us ∧ IntsAt w AV vs) ∧ SH w0 [] w' L := by
 have H := SH.refl w0
 by_cases h0 : nightErr n l ts ns hd = 0
 ·obtain ⟨m, rfl, hK⟩ := nightOk_of h0
  have hX := trans_ok hK
  have hcb := capL_bd hK
  have hfe : findErr m l ts ns hd = solveErr (capL ts) (movC ns) (movD ns) (timL m l ns) := by rw [findErr, if_neg (by simp [h0])]; simp
  refine Calls.ofWPc Tryz.func39 rfl Tryz.results39 Tryz.ntmps39 rfl <| Y.qr <| Y.bx (cA rfl) H ?_
  clear H; intro g1 w H
  refine Y.al H rfl rfl ?_
  clear H; intro g2 w H
  refine Y.b rfl <| Y.z <| Y.qr <| Y.v (Y.o H 1 rfl rfl) <| OPS.call (d := some 8) rfl rfl rfl (EvC.func (fun_run rfl)) (Calls.mono (boundRead m hd A B C l ts ns ca cb cc w (hN.sh H)) fun _ _ h => h.2 h0) ?_
  rintro _ w ⟨m2, Ac, Ab, At, rs, kc, kb, kt, LT, hm2, hrs, hT, rfl, Hc⟩
  refine ⟨_, rfl, ?_⟩
  replace H := SH.call (Lv := []) (by rw [List.append_nil]; exact H) Hc
  clear Hc
  obtain rfl : m = m2 := by omega
  have hTK := task_ok hK hrs
  refine Y.v (Ev.mvT rfl) <| Y.v (Ev.extract rfl rfl) <| Y.v (Ev.extract rfl rfl) <| Y.al H rfl rfl ?_
  clear H; intro g4 w H
  refine Y.ss 0 H rfl (cA rfl) rfl ?_
  clear H; intro w H
  refine Y.b rfl <| Y.z <| Y.q <| Y.qr <| Y.a rfl <| Y.v (Ev.neq rfl rfl) <| Y.z ?_
  refine WP.cond rfl (fun hc2 => ?_) (fun hc2 => ?_)
  ·refine Y.qr <| Y.v (Ev.build (bld_71_ (e := fun _ => .int .i64 0))) <| Y.a rfl <| Y.ss 1 H rfl (cA rfl) rfl ?_
   clear H; intro w H
   refine Y.b rfl <| Y.z ?_
   refine WP.ret ⟨[_, _], ⟨(by exact resCellA 1 H rfl (agg_run rfl) (size_run rfl) (by rfl) rfl), rfl, trivial⟩, ?_⟩
   exact absurd hc2 (by decide)
  refine Y.k <| Y.q ?_
  simp only [List.cons_append, List.nil_append] at H
  refine Y.r <| Y.v (Y.o H 0 rfl rfl) <| OPS.call (d := some 16) rfl rfl rfl (EvC.func (fun_run rfl)) (boundSolveU (C := movC ns) (D := movD ns) (tm := timL m l ns) Ac Ab At (colN ns) (briN ns) rs kc kb kt (capL ts) w (hT.at H (List.sublist_append_right [_, _, _] _)) hTK rfl rfl hrs.symm hX hcb) ?_
  rintro _ w ⟨s, b, us, vs, AU, AV, cu, cv, L, rfl, hbad, hgood, hrd, Hc⟩
  refine ⟨_, rfl, ?_⟩
  replace H := SH.call (Lv := []) (by rw [List.append_nil]; exact H) Hc
  clear Hc
  simp only [List.cons_append, List.nil_append] at H
  rw [← hfe]
  refine Y.v (Ev.extract rfl rfl) <| Y.v (Ev.extract rfl rfl) <| Y.ss 1 H rfl (cA rfl) rfl ?_
  clear H; intro w H
  refine Y.b rfl <| Y.z ?_
  refine WP.ret ⟨[_, _], ⟨(by exact resCellA 1 H rfl (agg_run rfl) (size_run rfl) (by rfl) rfl), rfl, trivial⟩, ?_⟩
  refine ⟨s, b, us, vs, AU, AV, cu, cv, L, rfl, ⟨fun h => hbad (by rw [← hfe]; exact h), fun h => ?_⟩, hrd, ?_⟩
  ·obtain ⟨T, q1, q2, q3, q4⟩ := hgood (by rw [← hfe]; exact h)
   exact ⟨m, T, rfl, hK, q1, q2, q3, q4⟩
  ·exact H.drop (List.Sublist.cons _ (List.Sublist.cons _ (List.Sublist.cons _ (List.sublist_append_right LT L))))
 ·have hfe : findErr n l ts ns hd = nightErr n l ts ns hd := by rw [findErr, if_pos h0]
  have h0' := h0
  refine Calls.ofWPc Tryz.func39 rfl Tryz.results39 Tryz.ntmps39 rfl <| Y.qr <| Y.bx (cA rfl) H ?_
  clear H; intro g1 w H
  refine Y.al H rfl rfl ?_
  clear H; intro g2 w H
  refine Y.b rfl <| Y.z <| Y.qr <| Y.v (Y.o H 1 rfl rfl) <| OPS.call (d := some 8) rfl rfl rfl (EvC.func (fun_run rfl)) (Calls.mono (boundRead n hd A B C l ts ns ca cb cc w (hN.sh H)) fun _ _ h => h.1 h0) ?_
  rintro _ w ⟨rfl, hb⟩
  refine ⟨_, rfl, ?_⟩
  replace H := H.toBelow hb; clear hb
  refine Y.v (Ev.mvT rfl) <| Y.v (Ev.extract rfl rfl) <| Y.v (Ev.extract rfl rfl) <| Y.al H rfl rfl ?_
  clear H; intro g4 w H
  refine Y.ss 0 H rfl (cA rfl) rfl ?_
  clear H; intro w H
  refine Y.b rfl <| Y.z <| Y.q <| Y.qr <| Y.a rfl <| Y.v (Ev.neq rfl rfl) <| Y.z ?_
  refine WP.cond rfl (fun hc2 => ?_) (fun hc2 => ?_)
  ·refine Y.qr <| Y.v (Ev.build (bld_71_ (e := fun _ => .int .i64 0))) <| Y.a rfl <| Y.ss 1 H rfl (cA rfl) rfl ?_
   clear H; intro w H
   refine Y.b rfl <| Y.z ?_
   refine WP.ret ⟨[_, _], ⟨(by exact resCellA 1 H rfl (agg_run rfl) (size_run rfl) (by rfl) rfl), rfl, trivial⟩, ?_⟩
   exact ⟨0, 0, [], [], none, none, 0, 0, [], by rw [hfe]; rfl, ⟨fun _ => ⟨rfl, rfl, rfl, rfl⟩, fun h => absurd (hfe ▸ h) h0⟩, fun _ _ _ _ => ⟨OnesAt.nil, OnesAt.nil⟩, H.drop (List.nil_sublist _)⟩
  refine Y.k <| Y.q ?_
  exact absurd hc2 (by simp [h0])
end Go.Proofs.YtgcokllbophkkaaGreat
namespace Go.Proofs.YtgcokllbophkkaaGreat
open Go Go.W Go.RowKit
theorem tm1 {a x : Int} {j k : Nat} (h : Flo.tmAt [[a]] j k = some x) : j = 0 ∧ k = 0 ∧ x = a := by
 unfold Flo.tmAt at h
 match j, k, h with
 | 0, 0, h => simp at h; exact ⟨rfl, rfl, h.symm⟩
 | 0, k + 1, h => simp at h
 | j + 1, k, h => simp at h
end Go.Proofs.YtgcokllbophkkaaGreat
namespace Go.Proofs.YtgcokllbophkkaaGreat
open Go Go.W Go.RowKit
noncomputable def drvL (n : Int) (l : List Edg) (ts : List Truck) (ns : List Need) (hd : Int) (rs : List Rt) : Int := (rs.map fun r => outD n l ts ns hd r.trk r.nd.l).sum
theorem drvL_succ {n hd : Int} {l : List Edg} {ts : List Truck} {ns : List Need} {rs : List Rt} {j : Nat} (hj : j < rs.length) : drvL n l ts ns hd (rs.take (j + 1)) = drvL n l ts ns hd (rs.take j) + outD n l ts ns hd rs[j].trk rs[j].nd.l := by
 rw [List.take_succ_eq_append_getElem hj]; unfold drvL; rw [List.map_append, List.sum_append, List.map_cons, List.map_nil, List.sum_cons, List.sum_nil, Int.add_zero]
theorem outD_bd {n hd rt : Int} {l : List Edg} {ts : List Truck} {ns : List Need} {rn : List Int} (h : walkE n l ts ns hd rt rn = 0) : 0 ≤ outD n l ts ns hd rt rn ∧ outD n l ts ns hd rt rn ≤ 2000000 := by
 obtain ⟨m, q, t, rfl, rfl, hW⟩ := walkOk_of h
 have h1 := hW.ts rn.length (Nat.le_refl _)
 rw [List.take_length] at h1
 have h2 := nodup_len hW.nd hW.hr
 have h3 := hW.night.nl
 obtain ⟨dv, hdv⟩ := Int.eq_ofNat_of_zero_le hW.tr.1.1
 have hdm := hW.tr.1.2
 have h4 := roadT_bd (v := t.depot.toNat) hW.night.road h1.at_ (by omega)
 have h5 : 0 ≤ roadT m l (goT (roadD m l) hd ns rn (startT t)).at_ t.depot.toNat := by
  have := hW.home
  unfold homeE at this
  split at this
  ·cases this
  ·omega
 have h6 := h1.driven
 rw [hW.D]
 omega
end Go.Proofs.YtgcokllbophkkaaGreat
namespace Go.W
open Go.RowKit
section
variable {P : Program} {N : Nat} {m : Md} {ops : Array Oper} {K : Env → World → Prop} {e : Env} {w w0 : World} {S : List Nat} {L : List Blk} {fuel : Nat} {listed : Array Bool} {rest : List Oper} {o : Oper}
theorem WP.scope {c : Code} {Kn : Env → World → Prop} {Kx : Nat → Env → World → Prop} {Kr : Env → World → Prop} (h : WP P N c Kn Kx Kr e w) : WP P N (.scope c) Kn Kx Kr e w :=
 ⟨fun a h1 h2 h3 => wp_scope_straight (Code.wp_mono (fun ex a w h => by cases ex <;> simp only [post, Exit.noGoto] at h ⊢ <;> try exact h) (h.run a h1 h2 h3))⟩
theorem OPS.gnoN {d : Option Nat} {j dj : Nat} {want : Bool} (hg : o.guard = some (j, want)) (hj : ops[j]?.bind (·.dst) = some dj) (hb : GB (e dj) want false) (hd : o.dst = d) (hN : (d.all fun d => Nat.blt d N) = true)
  (h : OPS P N m ops K rest (updo e d undef) w) : OPS P N m ops K (o :: rest) e w :=
 ⟨fun a h1 h2 h3 => by
  have hy := yielded_gb (a := a) (want := want) (q := false) hj (h1 ▸ hb)
  have hwt : Region.wanted o (yielded ops a.tmps) = false := by simp only [Region.wanted, hg]; exact hy
  have hn := h.run (a.put d undef) (by rw [envOf_puto d _ h2 hN, h1]) (by rw [size_put]; exact h2) (by rw [defers_put]; exact h3)
  cases m with
  | plain => simp only at hn ⊢; unfold wpList; rw [hwt, hd]; exact hn
  | still => simp only at hn ⊢; unfold wpStill; rw [hwt, hd]; exact hn
  | quiet => simp only at hn ⊢; unfold wpQuiet; rw [hwt, hd]; exact hn⟩
theorem OPH.takeY (i : Nat) {oi : Oper} {d j dj : Nat} {want : Bool} {v : Value} {f : Nat} (hi : ops[i]? = some oi) (hg : oi.guard = some (j, want)) (hj : ops[j]?.bind (·.dst) = some dj) (hb : e dj = .bool want) (hd : oi.dst = some d) (hN : Nat.blt d N = true) (hs : Region.noSelect ops = true) (hf : Region.free .any ops listed i = true)
  (hr : (Region.ready .any ops listed).contains i = true) (hfu : fuel = f + 1) (H : SH w0 S w L) (hE : ∀ w', SH w0 S w' L → Ev P e w' oi.type oi.op v)
  (h : OPH P N ops K w0 S L f (listed.setIfInBounds i true) (upd e d v) w) : OPH P N ops K w0 S L fuel listed e w :=
 ⟨fun a h1 h2 h3 => by
  subst hfu
  have hy := yielded_of (a := a) hj (h1 ▸ hb)
  have hwt : Region.wanted oi (yielded ops a.tmps) = true := by simp [Region.wanted, hg, hy]
  have hn := h.run (a.put (some d) v) (by rw [envOf_put v h2 hN, h1]) (by rw [size_put]; exact h2) (by rw [defers_put]; exact h3)
  refine wpAnyH_take hi hs hf hr (fun c a w hh => by simp only [post] at hh) (v := v) (.inl ⟨hwt, fun w' hw' => ?_⟩) H (by rw [hd]; exact hn)
  have := (hE w' hw').run w' (Below.refl _ _) oi rfl rfl
  rw [eval_eq, h1]; exact this⟩
end
section
variable {P : Program} {e : Env} {w : World} {ty t : TypeId} {x y : Operand}
theorem Ev.eqlSn {t' : TypeId} {el : TypeId} {a : Option Addr} {n c n' c' : Nat} (hU : ∀ w, (underlying t).run P w = .ok (.slice el) w) (hx : ev e x = .slice a n c) (hy : ev e y = .slice none n' c') : Ev P e w ty (.binOp .eql t x y t') (.bool a.isNone) :=
 ⟨fun w' _ o ho _ => by
  have hq : ∀ w, (Op.equal t (.slice a n c) (.slice none n' c')).run P w = .ok a.isNone w := by
   intro w
   unfold Op.equal
   rw [show Op.maxDepth = 9999 + 1 from rfl, Op.equalIn]
   cases a <;> simp [hU]
  unfold execOp; rw [ho]; simp [hx, hy, eqGuard, binOp, hq]⟩
end
end Go.W
namespace Go.Proofs.YtgcokllbophkkaaGreat.It
open Go Go.RowKit Go.Shelf Go.Proofs
attribute [local go_sem] Oper.semAt_some
def uptoI (zs : List Int) (k : Nat) : List Int := (List.range k).map fun j => zs[j]?.getD 0
theorem uptoI_succ (zs : List Int) (k : Nat) : uptoI zs (k + 1) = uptoI zs k ++ [zs[k]?.getD 0] := by simp [uptoI, List.range_succ]
theorem uptoI_length (zs : List Int) (k : Nat) : (uptoI zs k).length = k := by simp [uptoI]
theorem uptoI_all (zs : List Int) : uptoI zs zs.length = zs := by
 apply List.ext_getElem
 ·simp [uptoI]
 ·intro i h1 h2
  simp [uptoI, h2]
set_option maxRecDepth 100000 in
theorem values1 (F : Fence) (n : Nat) (h7 : F.fn 128) (hro : F.round = none) (hn : 1 ≤ n) (l Bs n₀ b off len cap : Nat) (zs : List Int) (hreach : len * 8 ≤ 140737488351232) (hb : b < n₀) (J Jx : List Int → World → Prop)
  (hY : ∀ pre x W, J pre W → pre.length < len → YieldAt F (n - 1) Tryz.prog l #[.int .i64 x] W fun e W' =>
   (e = .returned (.bool true) ∧ J (pre ++ [x]) W' ∧ Below n₀ W W') ∨ (e = .returned (.bool false) ∧ Jx (pre ++ [x]) W'))
  (W : World) (hBs : W.cell? ⟨Bs, 0, none⟩ = some (.slice (some ⟨b, off, none⟩) len cap)) (hc : ∀ j, j < len → W.cell? ⟨b, off + j, none⟩ = some (.int .i64 (zs[j]?.getD 0))) (h0 : J [] W) :
  CallsIn F n Tryz.prog 128 #[.func (.yield l) #[] #[], .pointer (some ⟨Bs, 0, none⟩)] W fun e W' => (∃ v, e = .returned v) ∧
   (J (uptoI zs len) W' ∨ (∃ pre, Jx pre W')) := by
 refine callsIn_of_wp Tryz.func128 rfl h7 ?_ hro
 simp only [Tryz.ntmps128, List.size_toArray, List.length_cons, List.length_nil, Nat.reduceAdd, Nat.reduceSub, Array.replicate_succ, Array.replicate_zero, List.push_toArray, List.append_toArray, List.nil_append, List.cons_append]
 gi_wp2
 gi_loopw [7] (fun i wr => ∃ k : Nat, k ≤ len ∧ i = .int .i64 k ∧ J (uptoI zs k) wr ∧ Below n₀ W wr)
  (fun i _ => len - (intOf i).toNat)
 case atStart => exact ⟨0, Nat.zero_le _, rfl, h0, Below.refl _ _⟩
 case round =>
  obtain ⟨k, hk, rfl, hJs, hnx⟩ := hrel
  have hcx : k < len → wr.cell? ⟨b, off + k, none⟩ = some (.int .i64 (zs[k]?.getD 0)) := fun h => (hnx.cell (p := ⟨b, off + k, none⟩) hb).trans (hc k h)
  by_cases hlt : k < len
  ·obtain ⟨fn, tmps, assign, body, hy, hR⟩ := hY _ (zs[k]?.getD 0) wr hJs (by rw [uptoI_length]; exact hlt)
   have hcx' := hcx hlt
   gi_wp2
   refine hR.mono ?_
   rintro e W3 (⟨rfl, hJ3, hk3⟩ | ⟨rfl, hJx3⟩)
   ·gi_wp2
    go_roundw
    case rel => exact ⟨k + 1, by omega, by simp, by rw [uptoI_succ]; exact hJ3, hnx.trans hk3⟩
    case measure => simp [intOf]; omega
   ·gi_wp2
    refine bodyPost_ret (results_none rfl _ _ _) rfl ?_
    exact ⟨⟨_, rfl⟩, .inr ⟨_, hJx3⟩⟩
  ·obtain rfl : k = len := by omega
   gi_wp2
   go_end0
   exact ⟨⟨_, rfl⟩, .inl hJs⟩
set_option maxRecDepth 100000 in
theorem values0 (F : Fence) (n : Nat) (h7 : F.fn 128) (hro : F.round = none) (l Bs : Nat) (A : Option Addr) (cap : Nat) (J : List Int → World → Prop) (W : World) (hBs : W.cell? ⟨Bs, 0, none⟩ = some (.slice A 0 cap)) (h0 : J [] W) :
  CallsIn F n Tryz.prog 128 #[.func (.yield l) #[] #[], .pointer (some ⟨Bs, 0, none⟩)] W fun e W' => (∃ v, e = .returned v) ∧ J [] W' := by
 refine callsIn_of_wp Tryz.func128 rfl h7 ?_ hro
 simp only [Tryz.ntmps128, List.size_toArray, List.length_cons, List.length_nil, Nat.reduceAdd, Nat.reduceSub, Array.replicate_succ, Array.replicate_zero, List.push_toArray, List.append_toArray, List.nil_append, List.cons_append]
 gi_wp2
 gi_loopw [7] (fun i wr => i = .int .i64 0 ∧ J [] wr) (fun _ _ => 0)
 case atStart => exact ⟨rfl, h0⟩
 case round =>
  obtain ⟨rfl, hJs⟩ := hrel
  gi_wp2
  go_end0
  exact ⟨⟨_, rfl⟩, hJs⟩
def Ints (n₀ : Nat) (W : World) (A : Option Addr) (zs : List Int) : Prop :=
 zs = [] ∨ ∃ b off, A = some ⟨b, off, none⟩ ∧ b < n₀ ∧ ∀ j, j < zs.length → W.cell? ⟨b, off + j, none⟩ = some (.int .i64 (zs[j]?.getD 0))
theorem Ints.below {n₀ : Nat} {A B : World} (h : Below n₀ A B) {sv : Option Addr} {zs : List Int} : Ints n₀ A sv zs → Ints n₀ B sv zs
 | .inl e => .inl e
 | .inr ⟨b, off, e, hb, hc⟩ => .inr ⟨b, off, e, hb, fun j hj => (h.cell (p := ⟨b, off + j, none⟩) hb).trans (hc j hj)⟩
theorem values_stops (F : Fence) (n : Nat) (h7 : F.fn 128) (hro : F.round = none) (hn : 1 ≤ n) (Bs n₀ : Nat) (A : Option Addr) (cap : Nat) (zs : List Int) (hreach : zs.length * 8 ≤ 140737488351232) (w : World) (hBs : Bs < w.heap.size) (hn₀ : n₀ ≤ w.heap.size)
  (hc : w.cell? ⟨Bs, 0, none⟩ = some (.slice A zs.length cap)) (hI : Ints n₀ w A zs) :
  SeqStopsK F n Tryz.prog 128 #[.pointer (some ⟨Bs, 0, none⟩)] (fun x : Int => #[Value.int .i64 x]) (Below n₀) (fun ys => ys = zs) (fun _ => True) zs.length w := fun l J Jx W hW _ _ hY h0 => by
 have hc' := (hW.cell (p := ⟨Bs, 0, none⟩) hBs).trans hc
 rcases hI.below (hW.mono hn₀) with rfl | ⟨b, off, rfl, hb, hcs⟩
 ·exact (values0 F n h7 hro l Bs A cap J W hc' h0).mono fun e W' ⟨he, hj⟩ => ⟨he, .inl ⟨_, rfl, hj⟩⟩
 ·refine (values1 F n h7 hro hn l Bs n₀ b off zs.length cap zs hreach hb J Jx hY W hc' hcs h0).mono ?_
  rintro e W' ⟨he, hj | ⟨pre, hj⟩⟩
  ·exact ⟨he, .inl ⟨_, uptoI_all zs, hj⟩⟩
  ·exact ⟨he, .inr ⟨_, trivial, hj⟩⟩
theorem inf3 : (Tryz.prog.info? 3).map (fun i => (i.zero, i.size, i.bytes)) = some (some (.int .i64 0), 1, 8) := by kernel_rfl
set_option maxRecDepth 100000 in
theorem appendSeq (n : Nat) (hn : 3 ≤ n) (Bs : Nat) (A : Option Addr) (cap : Nat) (zs : List Int) (hlen : zs.length ≤ maxLen) (hbytes : zs.length * 8 ≤ 140737488351232) (w : World) (hBs : Bs < w.heap.size)
  (hc : w.cell? ⟨Bs, 0, none⟩ = some (.slice A zs.length cap)) (hI : Ints w.heap.size w A zs) :
  CallsIn Fence.wide n Tryz.prog 143 #[.slice none 0 0, .func (.func 128) #[] #[.pointer (some ⟨Bs, 0, none⟩)]] w fun e W' => ∃ v, e = .returned v ∧ W'.ownsRow w.heap.size 3 1 v zs.length (zs.map (Value.int .i64)) ∧ (v = .slice none 0 0 ↔ zs = []) ∧ Below w.heap.size w W' := by
 have h1 : 1 ≤ n := by omega
 obtain ⟨i0, hi, hz0, hz1, hz2⟩ := info_parts inf3
 refine callsIn_of_wp_marks Tryz.func143 rfl trivial ?_ rfl
 simp only [Tryz.ntmps143, List.size_toArray, List.length_cons, List.length_nil, Nat.reduceAdd, Nat.reduceSub, Array.replicate_succ, Array.replicate_zero, List.push_toArray, List.append_toArray, List.nil_append, List.cons_append]
 gi_wp2
 have bO := Boxed.new w 32 (.slice none 0 0)
 have hB0 : Below w.heap.size w (w.alloc (.cells #[.slice none 0 0] 32)) := (Below.refl _ w).alloc (Nat.le_refl _) _
 refine wpIn_rangeFunc_ownG rfl h1 (gf := 128) (lb := #[.pointer (some ⟨Bs, 0, none⟩)]) rfl trivial (enters_of Tryz.func128 (by kernel_rfl) rfl)
  (values_stops Fence.wide (n - 1) trivial rfl (by omega) Bs w.heap.size A cap zs hbytes _ (by simp; omega) (by simp) ((hB0.cell (p := ⟨Bs, 0, none⟩) hBs).trans hc) (hI.below hB0)) belowK_t (belowK_b (by simp)) (Below.refl _ _) (fun _ => rfl)
  (fun pre W => (∃ v, Boxed W w.heap.size 32 v ∧ W.ownsRow w.heap.size 3 1 v pre.length (pre.map (Value.int .i64)) ∧ (v = .slice none 0 0 ↔ pre = [])) ∧ Below w.heap.size w W)
  (fun _ _ _ => False)
  (OwnFrom.and (Own.from (holdsRow_own w.heap.size w.heap.size 32 3 1 (fun pre : List Int => pre.length) (fun pre => pre.map (Value.int .i64)) (fun pre v => v = .slice none 0 0 ↔ pre = [])) _) (ownFrom_below (Nat.le_refl _) (by simp)))
  (fun _ _ _ _ _ hs _ _ => hs)
  ⟨⟨_, bO, World.ownsRow_nil _ _ _ _, by simp⟩, hB0⟩
  (fun x => { tmps := #[.slice none 0 0, .func (.func 128) #[] #[.pointer (some ⟨Bs, 0, none⟩)], .pointer (some ⟨w.heap.size, 0, none⟩), undef, .slice none 0 0, .int .i64 x, .func (.func 128) #[] #[.pointer (some ⟨Bs, 0, none⟩)], .int .i64 x, undef, undef, undef, undef, undef], defers := [] }) ?assign ?body ?done ?stop
 case assign =>
  intro l x W K hK
  gi_wp2
  exact hK
 case body =>
  rintro l pre x W ⟨⟨v, hv, hrow, hnil⟩, hB⟩ hlt
  have hc := hv.cell
  gi_wp2_with (gi_at_builtin; refine wpListIn_append_own _ rfl _ _ 32 rfl w.heap.size 3 i0 (.int .i64 0) 1 8 Tryz.underlying32 hi hz0 hz1 hz2 rfl (by decide) _ _ _ rfl (hrow.alloc _) ⟨W.heap.size, 0, none⟩ 1 1 [.int .i64 x] rfl rfl (cell_one_new _ _ _) (by simp [Value.oneCell']) (by omega) (by omega) (by have := hB.size; simp; omega) ?_; intro v' w1 hown' hgrow _; obtain ⟨g', cap', rfl⟩ := ownsRow_succ hown'; obtain ⟨hv1, hv2, hr2, hk2, hb2⟩ := hv.appended (by decide) hrow hB.size (Nat.le_refl _) hown' hgrow; have hc1 := hv1.cell; have hf1 := hv1.frozen)
  exact ⟨hk2.from _, hb2, ⟨_, hv2, by simpa using hr2, by simp⟩, hB.trans hb2⟩
 case done =>
  rintro D ys W hD rfl ⟨⟨v, hv, hrow, hnil⟩, hB⟩ hK
  have hc := hv.cell
  gi_wp2
  refine ⟨by simp, .inl ⟨_, _, rfl, run_takeDeferred hK, ?_⟩⟩
  exact ⟨_, results_tmp rfl _ _ _, v, rfl, ownsRow_putObj hrow _ hK rfl, hnil, hB.trans (belowK_b (w := w) (Nat.le_refl _) W D _ _ (by simp at hD; omega) hK rfl rfl)⟩
 case stop =>
  rintro D c pre W _ _ h _
  exact h.elim
end Go.Proofs.YtgcokllbophkkaaGreat.It
namespace Go.Proofs.YtgcokllbophkkaaGreat
open Go Go.W Go.RowKit
def lexB : List Int → List Int → Bool
 | [], [] => false
 | [], _ :: _ => true
 | _ :: _, [] => false
 | x :: a, y :: b => if x < y then true else if y < x then false else lexB a b
theorem lexB_irr : ∀ a, lexB a a = false
 | [] => rfl
 | x :: a => by rw [lexB, if_neg (Int.lt_irrefl _), if_neg (Int.lt_irrefl _), lexB_irr a]
theorem lexB_tri : ∀ {a b : List Int}, lexB a b = false → lexB b a = false → a = b
 | [], [], _, _ => rfl
 | [], _ :: _, h, _ => by cases h
 | _ :: _, [], _, h => by cases h
 | x :: a, y :: b, h1, h2 => by
  rw [lexB] at h1 h2
  by_cases h3 : x < y
  ·rw [if_pos h3] at h1; cases h1
  ·by_cases h4 : y < x
   ·rw [if_pos h4] at h2; cases h2
   ·rw [if_neg h3, if_neg h4] at h1
    rw [if_neg h4, if_neg h3] at h2
    rw [lexB_tri h1 h2, show x = y by omega]
theorem lexB_asym : ∀ {a b : List Int}, lexB a b = true → lexB b a = false
 | [], [], h => by cases h
 | [], _ :: _, _ => rfl
 | _ :: _, [], h => by cases h
 | x :: a, y :: b, h => by
  rw [lexB] at h ⊢
  by_cases h3 : x < y
  ·rw [if_neg (show ¬ y < x by omega), if_pos h3]
  ·by_cases h4 : y < x
   ·rw [if_neg h3, if_pos h4] at h; cases h
   ·rw [if_neg h3, if_neg h4] at h
    rw [if_neg h4, if_neg h3]; exact lexB_asym h
theorem lexB_trans : ∀ {a b c : List Int}, lexB a b = true → lexB b c = true → lexB a c = true
 | [], [], _, h, _ => by cases h
 | [], _ :: _, [], _, h => by cases h
 | [], _ :: _, _ :: _, _, _ => rfl
 | _ :: _, [], _, h, _ => by cases h
 | _ :: _, _ :: _, [], _, h => by cases h
 | x :: a, y :: b, z :: c, h1, h2 => by
  rw [lexB] at h1 h2 ⊢
  by_cases h3 : x < y
  ·by_cases h4 : z < y
   ·rw [if_neg (by omega), if_pos h4] at h2; cases h2
   ·rw [if_pos (by omega)]
  ·by_cases h5 : y < x
   ·rw [if_neg h3, if_pos h5] at h1; cases h1
   ·have hxy : x = y := by omega
    subst hxy
    rw [if_neg h3, if_neg h5] at h1
    by_cases h4 : x < z
    ·rw [if_pos h4]
    ·rw [if_neg h4] at h2 ⊢
     by_cases h6 : z < x
     ·rw [if_pos h6] at h2; cases h2
     ·rw [if_neg h6] at h2 ⊢
      exact lexB_trans h1 h2
section
variable (m d : List Int → Int)
def worse (a b : List Int) : Prop := m a < m b ∨ (m a = m b ∧ (d b < d a ∨ (d b = d a ∧ lexB b a = true)))
theorem worse_irr (a : List Int) : ¬ worse m d a a := by
 rintro (h | ⟨_, h | ⟨_, h⟩⟩)
 ·omega
 ·omega
 ·rw [lexB_irr] at h; cases h
theorem worse_trans {a b c : List Int} (h1 : worse m d a b) (h2 : worse m d b c) : worse m d a c := by
 unfold worse at *
 rcases h1 with h1 | ⟨h1, h1' | ⟨h1', h1''⟩⟩ <;> rcases h2 with h2 | ⟨h2, h2' | ⟨h2', h2''⟩⟩
 ·left; omega
 ·left; omega
 ·left; omega
 ·left; omega
 ·right; exact ⟨by omega, .inl (by omega)⟩
 ·right; exact ⟨by omega, .inl (by omega)⟩
 ·left; omega
 ·right; exact ⟨by omega, .inl (by omega)⟩
 ·right; exact ⟨by omega, .inr ⟨by omega, lexB_trans h2'' h1''⟩⟩
theorem worse_tri {a b : List Int} (h1 : ¬ worse m d a b) (h2 : ¬ worse m d b a) : a = b := by
 unfold worse at *
 have e1 : m a = m b := by
  rcases Int.lt_trichotomy (m a) (m b) with h | h | h
  ·exact absurd (.inl h) h1
  ·exact h
  ·exact absurd (.inl h) h2
 have e2 : d a = d b := by
  rcases Int.lt_trichotomy (d a) (d b) with h | h | h
  ·exact absurd (.inr ⟨e1.symm, .inl h⟩) h2
  ·exact h
  ·exact absurd (.inr ⟨e1, .inl h⟩) h1
 refine lexB_tri ?_ ?_
 ·cases h : lexB a b with
  | false => rfl
  | true => exact absurd (.inr ⟨e1.symm, .inr ⟨e2, h⟩⟩) h2
 ·cases h : lexB b a with
  | false => rfl
  | true => exact absurd (.inr ⟨e1, .inr ⟨e2.symm, h⟩⟩) h1
instance (a b : List Int) : Decidable (worse m d a b) := by unfold worse; exact inferInstance
def IsBest (C : List Int → Prop) : Option (List Int) → Prop
 | none => ∀ o, ¬ C o
 | some x => C x ∧ ∀ o, C o → ¬ worse m d x o
variable {m d}
theorem IsBest.unique {C : List Int → Prop} : ∀ {x y : Option (List Int)}, IsBest m d C x → IsBest m d C y → x = y
 | none, none, _, _ => rfl
 | none, some y, h, h' => absurd h'.1 (h y)
 | some x, none, h, h' => absurd h.1 (h' x)
 | some x, some y, h, h' => by rw [worse_tri m d (h.2 y h'.1) (h'.2 x h.1)]
theorem IsBest.congr {C C' : List Int → Prop} (hc : ∀ o, C o ↔ C' o) : ∀ {x : Option (List Int)}, IsBest m d C x → IsBest m d C' x
 | none, h => fun o ho => h o ((hc o).2 ho)
 | some x, h => ⟨(hc x).1 h.1, fun o ho => h.2 o ((hc o).2 ho)⟩
variable (m d)
def bet : Option (List Int) → Option (List Int) → Option (List Int)
 | none, y => y
 | some x, none => some x
 | some x, some y => if worse m d x y then some y else some x
variable {m d}
theorem IsBest.union {C C' : List Int → Prop} : ∀ {x y : Option (List Int)}, IsBest m d C x → IsBest m d C' y → IsBest m d (fun o => C o ∨ C' o) (bet m d x y)
 | none, none, h, h' => fun o ho => ho.elim (h o) (h' o)
 | none, some y, h, h' => ⟨.inr h'.1, fun o ho => ho.elim (fun hc => absurd hc (h o)) (h'.2 o)⟩
 | some x, none, h, h' => ⟨.inl h.1, fun o ho => ho.elim (h.2 o) (fun hc => absurd hc (h' o))⟩
 | some x, some y, h, h' => by
  show IsBest m d _ (if worse m d x y then some y else some x)
  by_cases hw : worse m d x y
  ·rw [if_pos hw]
   exact ⟨.inr h'.1, fun o ho hyo => ho.elim (fun hc => h.2 o hc (worse_trans m d hw hyo)) (fun hc => h'.2 o hc hyo)⟩
  ·rw [if_neg hw]
   refine ⟨.inl h.1, fun o ho hxo => ho.elim (fun hc => h.2 o hc hxo) (fun hc => ?_)⟩
   by_cases hyo : worse m d o y
   ·exact hw (worse_trans m d hxo hyo)
   ·have : y = o := worse_tri m d (h'.2 o hc) hyo
    subst this; exact hw hxo
theorem IsBest.one (o : List Int) : IsBest m d (fun x => x = o) (some o) := ⟨rfl, fun x hx => by subst hx; exact worse_irr m d x⟩
theorem IsBest.zero : IsBest m d (fun _ => False) none := fun _ h => h
end
theorem lexB_head {x : Int} {a b : List Int} : lexB (x :: a) (x :: b) = lexB a b := by rw [lexB, if_neg (Int.lt_irrefl _), if_neg (Int.lt_irrefl _)]
theorem lexB_pre : ∀ {p a b : List Int}, lexB (p ++ a) (p ++ b) = lexB a b
 | [], _, _ => rfl
 | x :: p, a, b => by rw [List.cons_append, List.cons_append, lexB_head, lexB_pre]
theorem desc_max : ∀ {s t : List Int}, s.Pairwise (fun x y => y < x) → t.Perm s → lexB s t = false
 | [], t, _, hp => by rw [hp.eq_nil]; rfl
 | a :: s, t, hs, hp => by
  rw [List.pairwise_cons] at hs
  cases t with
  | nil => rfl
  | cons b t =>
   have hb : b ∈ a :: s := hp.mem_iff.1 List.mem_cons_self
   have hba : b ≤ a := by
    rcases List.mem_cons.1 hb with rfl | hb
    ·exact Int.le_refl _
    ·have := hs.1 b hb; omega
   by_cases h : b = a
   ·subst h
    rw [lexB_head]
    exact desc_max hs.2 (List.perm_cons b |>.1 hp)
   ·rw [lexB, if_neg (by omega), if_pos (by omega)]
theorem asc_min : ∀ {s t : List Int}, s.Pairwise (fun x y => x < y) → t.Perm s → lexB t s = false
 | [], t, _, hp => by rw [hp.eq_nil]; rfl
 | a :: s, t, hs, hp => by
  rw [List.pairwise_cons] at hs
  cases t with
  | nil => exact absurd hp.length_eq (by simp)
  | cons b t =>
   have hb : b ∈ a :: s := hp.mem_iff.1 List.mem_cons_self
   have hba : a ≤ b := by
    rcases List.mem_cons.1 hb with rfl | hb
    ·exact Int.le_refl _
    ·have := hs.1 b hb; omega
   by_cases h : b = a
   ·subst h
    rw [lexB_head]
    exact asc_min hs.2 (List.perm_cons b |>.1 hp)
   ·rw [lexB, if_neg (by omega), if_pos (by omega)]
theorem next_ok {p big small : List Int} {x y : Int} (hd : (big ++ y :: small).Pairwise fun a b => b < a) (hxy : x < y) (hsm : ∀ z ∈ small, z < x) :
  lexB (p ++ x :: (big ++ y :: small)) (p ++ y :: (big ++ x :: small).reverse) = true ∧
  (p ++ y :: (big ++ x :: small).reverse).Perm (p ++ x :: (big ++ y :: small)) ∧
  ∀ o : List Int, o.Perm (p ++ x :: (big ++ y :: small)) → lexB (p ++ x :: (big ++ y :: small)) o = true → o = p ++ y :: (big ++ x :: small).reverse ∨ lexB (p ++ y :: (big ++ x :: small).reverse) o = true := by
 have hd0 := hd
 rw [List.pairwise_append, List.pairwise_cons] at hd
 obtain ⟨d1, ⟨d2, d3⟩, d4⟩ := hd
 have hbig : ∀ z ∈ big, y < z := fun z hz => d4 z hz y List.mem_cons_self
 have hasc : ((big ++ x :: small).reverse).Pairwise fun a b => a < b := by
  rw [List.pairwise_reverse, List.pairwise_append, List.pairwise_cons]
  refine ⟨d1, ⟨hsm, d3⟩, fun z hz w hw => ?_⟩
  have := hbig z hz
  rcases List.mem_cons.1 hw with rfl | hw
  ·omega
  ·have := hsm w hw; omega
 have hperm : (y :: (big ++ x :: small).reverse).Perm (x :: (big ++ y :: small)) := by
  refine ((List.reverse_perm _).cons y).trans ?_
  refine (List.Perm.cons y List.perm_middle).trans ?_
  refine (List.Perm.swap x y _).trans ?_
  exact List.Perm.cons x List.perm_middle.symm
 refine ⟨by rw [lexB_pre, lexB, if_pos hxy], hperm.append_left p, ?_⟩
 induction p with
 | nil =>
  intro o ho hlt
  simp only [List.nil_append] at ho hlt ⊢
  cases o with
  | nil => cases hlt
  | cons z t =>
   have hz : z ∈ x :: (big ++ y :: small) := ho.mem_iff.1 List.mem_cons_self
   rw [lexB] at hlt
   by_cases h1 : x < z
   ·skip
    have hzy : y ≤ z := by
     rcases List.mem_cons.1 hz with rfl | hz
     ·omega
     ·rcases List.mem_append.1 hz with hz | hz
      ·have := hbig z hz; omega
      ·rcases List.mem_cons.1 hz with rfl | hz
       ·exact Int.le_refl _
       ·have := hsm z hz; omega
    by_cases h2 : z = y
    ·subst h2
     have hp : t.Perm (big ++ x :: small).reverse := by
      have := ho.trans hperm.symm
      exact (List.perm_cons z).1 this
     have hm := asc_min hasc hp
     cases hx : lexB (big ++ x :: small).reverse t with
     | false => left; rw [lexB_tri hm hx]
     | true => right; rw [lexB_head]; exact hx
    ·right; rw [lexB, if_pos (by omega)]
   ·rw [if_neg h1] at hlt
    by_cases h2 : z < x
    ·rw [if_pos h2] at hlt; cases hlt
    ·rw [if_neg h2] at hlt
     have : z = x := by omega
     subst this
     rw [desc_max hd0 ((List.perm_cons z).1 ho)] at hlt; cases hlt
 | cons a p ih =>
  intro o ho hlt
  simp only [List.cons_append] at ho hlt ⊢
  cases o with
  | nil => cases hlt
  | cons z t =>
   rw [lexB] at hlt
   by_cases h1 : a < z
   ·right; rw [lexB, if_pos h1]
   ·rw [if_neg h1] at hlt
    by_cases h2 : z < a
    ·rw [if_pos h2] at hlt; cases hlt
    ·rw [if_neg h2] at hlt
     have : z = a := by omega
     subst this
     rcases ih t ((List.perm_cons z).1 ho) hlt with h | h
     ·left; rw [h]
     ·right; rw [lexB_head]; exact h
def pickS : List Int → Nat → List Int
 | [], _ => []
 | x :: l, s => (if s % 2 = 1 then [x] else []) ++ pickS l (s / 2)
theorem pickS_snoc : ∀ (l : List Int) (x : Int) (s : Nat), pickS (l ++ [x]) s = pickS l s ++ if (s / 2 ^ l.length) % 2 = 1 then [x] else []
 | [], x, s => by simp [pickS]
 | a :: l, x, s => by
  rw [List.cons_append, pickS, pickS, pickS_snoc l x (s / 2), List.append_assoc, Nat.div_div_eq_div_mul, List.length_cons, Nat.pow_succ, Nat.mul_comm 2]
theorem pickS_all (p : Int → Bool) : ∀ l : List Int, ∃ s, s < 2 ^ l.length ∧ pickS l s = l.filter p
 | [] => ⟨0, by simp, rfl⟩
 | x :: l => by
  obtain ⟨s, h1, h2⟩ := pickS_all p l
  cases hp : p x with
  | true => exact ⟨2 * s + 1, by rw [List.length_cons, Nat.pow_succ]; omega, by rw [pickS, if_pos (by omega), show (2 * s + 1) / 2 = s by omega, h2, List.filter_cons_of_pos hp]; rfl⟩
  | false => exact ⟨2 * s, by rw [List.length_cons, Nat.pow_succ]; omega, by rw [pickS, if_neg (by omega), show 2 * s / 2 = s by omega, h2, List.filter_cons_of_neg (by rw [hp]; simp)]; rfl⟩
theorem pickS_sub : ∀ (l : List Int) (s : Nat), (pickS l s).Sublist l
 | [], _ => List.Sublist.refl _
 | x :: l, s => by
  rw [pickS]
  have := pickS_sub l (s / 2)
  split
  ·exact this.cons_cons x
  ·exact this.cons x
theorem part_of {l o : List Int} (hl : l.Nodup) (ho : o.Nodup) (hs : ∀ x ∈ o, x ∈ l) : ∃ s, s < 2 ^ l.length ∧ o.Perm (pickS l s) := by
 obtain ⟨s, h1, h2⟩ := pickS_all (fun x => decide (x ∈ o)) l
 refine ⟨s, h1, ?_⟩
 rw [h2]
 refine (List.perm_ext_iff_of_nodup ho (hl.filter _)).2 fun x => ?_
 rw [List.mem_filter]
 simp
 exact hs x
end Go.Proofs.YtgcokllbophkkaaGreat
namespace Go.Proofs.YtgcokllbophkkaaGreat
open Go Go.W Go.RowKit
def swp (l : List Int) (i k : Nat) : List Int := (l.set i (l.getD k 0)).set k (l.getD i 0)
theorem swp_len (l : List Int) (i k : Nat) : (swp l i k).length = l.length := by simp [swp]
def stepL (l : List Int) (i k : Nat) : List Int := (swp l i k).take (i + 1) ++ ((swp l i k).drop (i + 1)).reverse
theorem stepL_len (l : List Int) (i k : Nat) : (stepL l i k).length = l.length := by
 unfold stepL
 rw [List.length_append, List.length_reverse, ← List.length_append, List.take_append_drop, swp_len]
theorem getDi {l : List Int} {k : Nat} (h : k < l.length) : l.getD k 0 = l[k] := by rw [List.getD_eq_getElem?_getD, List.getElem?_eq_getElem h]; rfl
theorem stepL_form {p big small : List Int} {x y : Int} : stepL (p ++ x :: (big ++ y :: small)) p.length (p.length + 1 + big.length) = p ++ y :: (big ++ x :: small).reverse := by
 have e1 : (p ++ x :: (big ++ y :: small)).getD p.length 0 = x := by rw [List.getD_eq_getElem?_getD, List.getElem?_append_right (Nat.le_refl _)]; simp
 have e2 : (p ++ x :: (big ++ y :: small)).getD (p.length + 1 + big.length) 0 = y := by
  rw [List.getD_eq_getElem?_getD, List.getElem?_append_right (by omega), show p.length + 1 + big.length - p.length = big.length + 1 by omega, List.getElem?_cons_succ, List.getElem?_append_right (Nat.le_refl _)]; simp
 have e3 : swp (p ++ x :: (big ++ y :: small)) p.length (p.length + 1 + big.length) = p ++ y :: (big ++ x :: small) := by
  unfold swp
  rw [e1, e2, List.set_append_right _ _ (Nat.le_refl _), Nat.sub_self, List.set_cons_zero, List.set_append_right _ _ (by omega), show p.length + 1 + big.length - p.length = big.length + 1 by omega, List.set_cons_succ, List.set_append_right _ _ (Nat.le_refl _), Nat.sub_self, List.set_cons_zero]
 unfold stepL
 rw [e3, show p ++ y :: (big ++ x :: small) = (p ++ [y]) ++ (big ++ x :: small) by simp, List.take_left' (by simp), List.drop_left' (by simp)]
 simp
def Fall (l : List Int) (j : Nat) : Prop := ∀ a b, j ≤ a → a < b → b < l.length → l.getD b 0 < l.getD a 0
theorem split_at {l : List Int} {i k : Nat} (hik : i < k) (hk : k < l.length) : ∃ p big small, l = p ++ l.getD i 0 :: (big ++ l.getD k 0 :: small) ∧ p.length = i ∧ p.length + 1 + big.length = k ∧ (big ++ l.getD k 0 :: small) = l.drop (i + 1) ∧ small = l.drop (k + 1) := by
 refine ⟨l.take i, (l.drop (i + 1)).take (k - (i + 1)), l.drop (k + 1), ?_, by simp; omega, by simp; omega, ?_, rfl⟩
 ·rw [getDi hk, getDi (show i < l.length by omega)]
  have h1 : (l.drop (i + 1)).take (k - (i + 1)) ++ l[k] :: l.drop (k + 1) = l.drop (i + 1) := by
   have := List.take_append_drop (k - (i + 1)) (l.drop (i + 1))
   rw [List.drop_drop, show i + 1 + (k - (i + 1)) = k by omega, List.drop_eq_getElem_cons hk] at this
   exact this
  rw [h1, ← List.drop_eq_getElem_cons (show i < l.length by omega), List.take_append_drop]
 ·rw [getDi hk]
  have := List.take_append_drop (k - (i + 1)) (l.drop (i + 1))
  rw [List.drop_drop, show i + 1 + (k - (i + 1)) = k by omega, List.drop_eq_getElem_cons hk] at this
  exact this
theorem fall_drop {l : List Int} {j : Nat} (h : Fall l j) : (l.drop j).Pairwise fun a b => b < a := by
 rw [List.pairwise_iff_getElem]
 intro a b ha hb hab
 rw [List.getElem_drop, List.getElem_drop]
 have := h (j + a) (j + b) (by omega) (by omega) (by simp at hb; omega)
 rw [getDi (by simp at hb; omega), getDi (by simp at ha; omega)] at this
 exact this
theorem step_ok {l : List Int} {i k : Nat} (hik : i < k) (hk : k < l.length) (hf : Fall l (i + 1)) (hlt : l.getD i 0 < l.getD k 0) (hno : ∀ k', k < k' → k' < l.length → ¬ l.getD i 0 < l.getD k' 0) (hnd : l.Nodup) :
  lexB l (stepL l i k) = true ∧ (stepL l i k).Perm l ∧ ∀ o : List Int, o.Perm l → lexB l o = true → o = stepL l i k ∨ lexB (stepL l i k) o = true := by
 obtain ⟨p, big, small, h1, h2, h3, h4, h5⟩ := split_at hik hk
 have hd := fall_drop hf
 rw [← h4] at hd
 have hsm : ∀ z ∈ small, z < l.getD i 0 := fun z hz => by
  rw [h5] at hz
  obtain ⟨q, hq, rfl⟩ := List.mem_iff_getElem.1 hz
  simp at hq
  rw [List.getElem_drop]
  have := hno (k + 1 + q) (by omega) (by omega)
  rw [getDi (show k + 1 + q < l.length by omega)] at this
  have hne : l[k + 1 + q] ≠ l.getD i 0 := by
   rw [getDi (show i < l.length by omega)]
   intro he
   have := (List.getElem_inj hnd).1 he
   omega
  omega
 have hn := next_ok (p := p) (x := l.getD i 0) hd hlt hsm
 have e : stepL l i k = p ++ l.getD k 0 :: (big ++ l.getD i 0 :: small).reverse := by
  have := stepL_form (p := p) (big := big) (small := small) (x := l.getD i 0) (y := l.getD k 0)
  rw [h3, ← h1, h2] at this
  exact this
 rw [e]
 rw [← h1] at hn
 exact hn
theorem fall_more {l : List Int} {i : Nat} (hf : Fall l (i + 1)) (hno : ∀ k, i < k → k < l.length → ¬ l.getD i 0 < l.getD k 0) (hnd : l.Nodup) : Fall l i := fun a b h1 h2 h3 => by
 by_cases h : a = i
 ·subst h
  have := hno b h2 h3
  have hne : l.getD b 0 ≠ l.getD a 0 := by
   rw [getDi h3, getDi (show a < l.length by omega)]
   intro he
   have := (List.getElem_inj hnd).1 he
   omega
  omega
 ·exact hf a b (by omega) h2 h3
structure Met (l0 cur : List Int) (V : List (List Int)) : Prop where
 perm : cur.Perm l0
 sub : ∀ o ∈ V, o.Perm l0
 all : ∀ o : List Int, o.Perm l0 → lexB o cur = true → o ∈ V
theorem Met.start {l0 cur : List Int} (hp : cur.Perm l0) (hs : cur.Pairwise fun x y => x < y) : Met l0 cur [] :=
 ⟨hp, fun o h => (List.not_mem_nil h).elim, fun o ho hl => by rw [asc_min hs (ho.trans hp.symm)] at hl; cases hl⟩
theorem Met.step {l0 cur : List Int} {V : List (List Int)} (h : Met l0 cur V) {i k : Nat} (hik : i < k) (hk : k < cur.length) (hf : Fall cur (i + 1)) (hlt : cur.getD i 0 < cur.getD k 0) (hno : ∀ k', k < k' → k' < cur.length → ¬ cur.getD i 0 < cur.getD k' 0) (hnd : cur.Nodup) :
  Met l0 (stepL cur i k) (V ++ [cur]) := by
 obtain ⟨h1, h2, h3⟩ := step_ok hik hk hf hlt hno hnd
 refine ⟨h2.trans h.perm, fun o ho => ?_, fun o ho hl => ?_⟩
 ·rcases List.mem_append.1 ho with ho | ho
  ·exact h.sub o ho
  ·rw [List.mem_singleton.1 ho]; exact h.perm
 ·cases hc : lexB o cur with
  | true => exact List.mem_append_left _ (h.all o ho hc)
  | false =>
   cases hc2 : lexB cur o with
   | false => rw [lexB_tri hc hc2]; simp
   | true =>
    exfalso
    rcases h3 o (ho.trans h.perm.symm) hc2 with h4 | h4
    ·rw [h4, lexB_irr] at hl; cases hl
    ·rw [lexB_asym h4] at hl; cases hl
theorem Met.done {l0 cur : List Int} {V : List (List Int)} (h : Met l0 cur V) (hf : Fall cur 0) : ∀ o, o ∈ V ++ [cur] ↔ o.Perm l0 := fun o => by
 constructor
 ·intro ho
  rcases List.mem_append.1 ho with ho | ho
  ·exact h.sub o ho
  ·rw [List.mem_singleton.1 ho]; exact h.perm
 ·intro ho
  have hm := desc_max (by have := fall_drop hf; rwa [List.drop_zero] at this) (ho.trans h.perm.symm)
  cases hc : lexB o cur with
  | true => exact List.mem_append_left _ (h.all o ho hc)
  | false => rw [lexB_tri hc hm]; simp
def encL : List Int → Nat
 | [] => 0
 | x :: l => x.toNat * 64 ^ l.length + encL l
theorem encL_lt : ∀ {l : List Int}, (∀ x ∈ l, 0 ≤ x ∧ x < 64) → encL l < 64 ^ l.length
 | [], _ => by simp [encL]
 | x :: l, h => by
  have ih := encL_lt (l := l) fun y hy => h y (List.mem_cons_of_mem _ hy)
  have hx := h x List.mem_cons_self
  rw [encL, List.length_cons, Nat.pow_succ, Nat.mul_comm (64 ^ l.length)]
  have : x.toNat ≤ 63 := by omega
  have := Nat.mul_le_mul_right (64 ^ l.length) this
  omega
theorem encL_lex : ∀ {a b : List Int}, a.length = b.length → (∀ x ∈ a, 0 ≤ x ∧ x < 64) → (∀ x ∈ b, 0 ≤ x ∧ x < 64) → lexB a b = true → encL a < encL b
 | [], [], _, _, _, h => by cases h
 | [], _ :: _, h, _, _, _ => by cases h
 | _ :: _, [], h, _, _, _ => by cases h
 | x :: a, y :: b, hl, ha, hb, h => by
  have hl' : a.length = b.length := by simpa using hl
  have hx := ha x List.mem_cons_self
  have hy := hb y List.mem_cons_self
  have ea := encL_lt (l := a) fun z hz => ha z (List.mem_cons_of_mem _ hz)
  rw [lexB] at h
  rw [encL, encL, hl']
  by_cases h1 : x < y
  ·have h2 : x.toNat + 1 ≤ y.toNat := by omega
   have h3 := Nat.mul_le_mul_right (64 ^ b.length) h2
   rw [Nat.add_mul, Nat.one_mul] at h3
   rw [hl'] at ea
   omega
  ·rw [if_neg h1] at h
   by_cases h2 : y < x
   ·rw [if_pos h2] at h; cases h
   ·rw [if_neg h2] at h
    have : x = y := by omega
    subst this
    have := encL_lex hl' (fun z hz => ha z (List.mem_cons_of_mem _ hz)) (fun z hz => hb z (List.mem_cons_of_mem _ hz)) h
    omega
end Go.Proofs.YtgcokllbophkkaaGreat
namespace Go.Proofs.YtgcokllbophkkaaGreat
open Go Go.W Go.RowKit
section
variable (m d : List Int → Int) (F : List Int → Bool)
def visB (s : Option (List Int)) (o : List Int) : Option (List Int) := if F o = true then bet m d s (some o) else s
variable {m d F}
theorem IsBest.vis {C : List Int → Prop} {s : Option (List Int)} (h : IsBest m d C s) (o : List Int) : IsBest m d (fun x => C x ∨ (x = o ∧ F o = true)) (visB m d F s o) := by
 unfold visB
 by_cases hf : F o = true
 ·rw [if_pos hf]
  exact (h.union (IsBest.one o)).congr fun x => by simp [hf]
 ·rw [if_neg hf]
  exact h.congr fun x => by simp [hf]
theorem IsBest.fold : ∀ {V : List (List Int)} {C : List Int → Prop} {s : Option (List Int)}, IsBest m d C s → IsBest m d (fun x => C x ∨ (x ∈ V ∧ F x = true)) (V.foldl (visB m d F) s)
 | [], C, s, h => h.congr fun x => by simp
 | o :: V, C, s, h => by
  refine (IsBest.fold (V := V) (h.vis (F := F) o)).congr fun x => ?_
  simp only [List.mem_cons]
  constructor
  ·rintro ((h | ⟨h, h2⟩) | h)
   ·exact .inl h
   ·exact .inr ⟨.inl h, by rw [h]; exact h2⟩
   ·exact .inr ⟨.inr h.1, h.2⟩
  ·rintro (h | ⟨h | h, h2⟩)
   ·exact .inl (.inl h)
   ·exact .inl (.inr ⟨h, by rw [← h]; exact h2⟩)
   ·exact .inr ⟨h, h2⟩
end
end Go.Proofs.YtgcokllbophkkaaGreat
namespace Go.Proofs
open Go.Shelf
def Tryz.lays189_ren : Go.Shelf.Ren := ⟨fun | 189 => 127 | 125 => 145 | 257 => 144 | 128 => 162 | 129 => 163 | 294 => 154 | 295 => 155 | 296 => 156 | 297 => 157 | 298 => 158 | 299 => 159 | 216 => 77 | 300 => 160 | 301 => 161 | 328 => 166 | 329 => 167 | 330 => 168 | 331 => 169 | 332 => 170 | 215 => 98 | 343 => 171 | n => n, fun | 28 => 32 | 3 => 3 | 46 => 218 | 0 => 0 | 51 => 236 | 53 => 238 | 4 => 4 | 183 => 229 | 182 => 228 | 131 => 233 | 5 => 5 | 9 => 9 | 218 => 239 | 222 => 243 | 228 => 245 | 229 => 195 | n => n, fun | n => n⟩
theorem Tryz.lays189 : Go.Proofs.Lays.n189 Tryz.prog Tryz.lays189_ren := {
 mixed := by kernel_rfl
 f125 := Tryz.func145.trans (congrArg some (by kernel_rfl))
 f128 := Tryz.func162.trans (congrArg some (by kernel_rfl))
 f129 := Tryz.func163.trans (congrArg some (by kernel_rfl))
 f189 := Tryz.func127.trans (congrArg some (by kernel_rfl))
 f215 := Tryz.func98.trans (congrArg some (by kernel_rfl))
 f216 := Tryz.func77.trans (congrArg some (by kernel_rfl))
 f257 := Tryz.func144.trans (congrArg some (by kernel_rfl))
 f294 := Tryz.func154.trans (congrArg some (by kernel_rfl))
 f295 := Tryz.func155.trans (congrArg some (by kernel_rfl))
 f296 := Tryz.func156.trans (congrArg some (by kernel_rfl))
 f297 := Tryz.func157.trans (congrArg some (by kernel_rfl))
 f298 := Tryz.func158.trans (congrArg some (by kernel_rfl))
 f299 := Tryz.func159.trans (congrArg some (by kernel_rfl))
 f300 := Tryz.func160.trans (congrArg some (by kernel_rfl))
 f301 := Tryz.func161.trans (congrArg some (by kernel_rfl))
 f328 := Tryz.func166.trans (congrArg some (by kernel_rfl))
 f329 := Tryz.func167.trans (congrArg some (by kernel_rfl))
 f330 := Tryz.func168.trans (congrArg some (by kernel_rfl))
 f331 := Tryz.func169.trans (congrArg some (by kernel_rfl))
 f332 := Tryz.func170.trans (congrArg some (by kernel_rfl))
 f343 := Tryz.func171.trans (congrArg some (by kernel_rfl))
 t0 := Tryz.underlying0
 a0 := Tryz.isAgg0
 z0 := Tryz.sizeOf0
 v0 := Tryz.zeroValue0
 t3 := Tryz.underlying3
 a3 := Tryz.isAgg3
 z3 := Tryz.sizeOf3
 v3 := Tryz.zeroValue3
 t4 := Tryz.underlying4
 a4 := Tryz.isAgg4
 z4 := Tryz.sizeOf4
 v4 := Tryz.zeroValue4
 t5 := Tryz.underlying5
 a5 := Tryz.isAgg5
 z5 := Tryz.sizeOf5
 v5 := Tryz.zeroValue5
 t9 := Tryz.underlying9
 a9 := Tryz.isAgg9
 z9 := Tryz.sizeOf9
 v9 := Tryz.zeroValue9
 t28 := Tryz.underlying32
 a28 := Tryz.isAgg32
 z28 := Tryz.sizeOf32
 v28 := Tryz.zeroValue32
 t46 := Tryz.underlying218
 a46 := Tryz.isAgg218
 z46 := Tryz.sizeOf218
 v46 := Tryz.zeroValue218
 t51 := Tryz.underlying236
 a51 := Tryz.isAgg236
 z51 := Tryz.sizeOf236
 v51 := Tryz.zeroValue236
 t53 := Tryz.underlying238
 a53 := Tryz.isAgg238
 z53 := Tryz.sizeOf238
 v53 := Tryz.zeroValue238
 t131 := Tryz.underlying233
 a131 := Tryz.isAgg233
 z131 := Tryz.sizeOf233
 v131 := Tryz.zeroValue233
 t182 := Tryz.underlying228
 a182 := Tryz.isAgg228
 z182 := Tryz.sizeOf228
 v182 := Tryz.zeroValue228
 t183 := Tryz.underlying229
 a183 := Tryz.isAgg229
 z183 := Tryz.sizeOf229
 v183 := Tryz.zeroValue229
 t218 := Tryz.underlying239
 a218 := Tryz.isAgg239
 z218 := Tryz.sizeOf239
 v218 := Tryz.zeroValue239
 t222 := Tryz.underlying243
 a222 := Tryz.isAgg243
 z222 := Tryz.sizeOf243
 v222 := Tryz.zeroValue243
 t228 := Tryz.underlying245
 a228 := Tryz.isAgg245
 z228 := Tryz.sizeOf245
 v228 := Tryz.zeroValue245
 t229 := Tryz.underlying195
 a229 := Tryz.isAgg195
 z229 := Tryz.sizeOf195
 v229 := Tryz.zeroValue195 }
def Tryz.lays112_ren : Go.Shelf.Ren := ⟨fun | 112 => 129 | n => n, fun | 28 => 32 | 3 => 3 | 4 => 4 | 0 => 0 | n => n, fun | n => n⟩
theorem Tryz.lays112 : Go.Proofs.Lays.n112 Tryz.prog Tryz.lays112_ren := {
 mixed := by kernel_rfl
 f112 := Tryz.func129.trans (congrArg some (by kernel_rfl))
 t0 := Tryz.underlying0
 a0 := Tryz.isAgg0
 z0 := Tryz.sizeOf0
 v0 := Tryz.zeroValue0
 t3 := Tryz.underlying3
 a3 := Tryz.isAgg3
 z3 := Tryz.sizeOf3
 v3 := Tryz.zeroValue3
 t4 := Tryz.underlying4
 a4 := Tryz.isAgg4
 z4 := Tryz.sizeOf4
 v4 := Tryz.zeroValue4
 t28 := Tryz.underlying32
 a28 := Tryz.isAgg32
 z28 := Tryz.sizeOf32
 v28 := Tryz.zeroValue32 }
def Tryz.laysNm220_ren : Go.Shelf.Ren := ⟨fun | 20 => 104 | n => n, fun | 22 => 32 | 3 => 3 | 4 => 4 | 0 => 0 | n => n, fun | n => n⟩
theorem Tryz.laysNm220 : Go.Proofs.Lays2.n20 Tryz.prog Tryz.laysNm220_ren := {
 mixed := by kernel_rfl
 f20 := Tryz.func104.trans (congrArg some (by kernel_rfl))
 t0 := Tryz.underlying0
 a0 := Tryz.isAgg0
 z0 := Tryz.sizeOf0
 v0 := Tryz.zeroValue0
 t3 := Tryz.underlying3
 a3 := Tryz.isAgg3
 z3 := Tryz.sizeOf3
 v3 := Tryz.zeroValue3
 t4 := Tryz.underlying4
 a4 := Tryz.isAgg4
 z4 := Tryz.sizeOf4
 v4 := Tryz.zeroValue4
 t22 := Tryz.underlying32
 a22 := Tryz.isAgg32
 z22 := Tryz.sizeOf32
 v22 := Tryz.zeroValue32
 i3 := by kernel_rfl }
open Go.Sort Go.RowKit in
theorem Tryz.slices_Sort_int (blk off cap : Nat) (zs : List Int) (w : World) (hH : Holds (Value.int .i64) w blk off zs.toArray) (hblk : blk < w.heap.size) (hsz : zs.length < 4611686018427387904) :
  Calls Tryz.prog 127 #[.slice (some ⟨blk, off, none⟩) zs.length cap] w fun e w' =>
   e = .returned (.tuple #[]) ∧ ∃ n os, w' = grow (putRow (Value.int .i64) (Sort.ahead w n) blk off (zs.mergeSort fun x y => decide (x ≤ y)).toArray) os := Any.slices_Sort_int Tryz.lays189 blk off cap zs w hH hblk hsz
open Go.RowKit Go.Lib Go.Sort in
theorem Tryz.slices_Reverse_int (blk off cap : Nat) (zs : List Int) (w : World) (hH : Holds (Value.int .i64) w blk off zs.toArray) (hsz : zs.length ≤ 9223372036854775807) :
  Calls Tryz.prog 129 #[.slice (some ⟨blk, off, none⟩) zs.length cap] w fun e w' => e = .returned (.tuple #[]) ∧ ∃ n, w' = putRow (Value.int .i64) (Sort.ahead w n) blk off zs.reverse.toArray := Any.slices_Reverse_int Tryz.lays112 blk off cap zs w hH hsz
open Go.RowKit Go.Lib Go.Sort in
theorem Tryz.slices_Compact_int_empty (a : Option Addr) (cap : Nat) (w : World) :
  Calls Tryz.prog 104 #[.slice a 0 cap] w fun e w' => e = .returned (.slice a 0 cap) ∧ w' = w := Any.slices_Compact_int_empty Tryz.laysNm220 a cap w
open Go.RowKit Go.Sort in
theorem Tryz.slices_Sort_int_none (p : Option Addr) (cap : Nat) (w : World) :
  Calls Tryz.prog 127 #[.slice p 0 cap] w fun e w' => e = .returned (.tuple #[]) ∧ w' = w := Any.slices_Sort_int_none Tryz.lays189 p cap w
end Go.Proofs
namespace Go.Proofs.YtgcokllbophkkaaGreat
open Go Go.W Go.RowKit
def cmpT (zs : List Int) : Nat → List Int
 | 0 => []
 | i + 1 => cmpT zs i ++ if 0 < i ∧ zs.getD i 0 = zs.getD (i - 1) 0 then [] else [zs.getD i 0]
theorem cmpT_id {zs : List Int} : ∀ {i : Nat}, i ≤ zs.length → (∀ j, 0 < j → j < i → zs.getD j 0 ≠ zs.getD (j - 1) 0) → cmpT zs i = zs.take i
 | 0, _, _ => by simp [cmpT]
 | i + 1, hi, h => by
  rw [cmpT, cmpT_id (by omega) fun j h0 h1 => h j h0 (by omega), if_neg (fun hh => h i hh.1 (by omega) hh.2), List.take_succ_eq_append_getElem (show i < zs.length by omega), List.getD_eq_getElem?_getD, List.getElem?_eq_getElem (by omega)]; rfl
theorem getI {l : List Int} {k : Nat} (h : k < l.length) : l.getD k 0 = l[k] := by rw [List.getD_eq_getElem?_getD, List.getElem?_eq_getElem h]; rfl
theorem slCompact (g : Nat) (zs : List Int) (sp : List Value) (cap : Nat) (w0 : World) (H0 : SH w0 [g] w0 [⟨g, 3, zs.map I ++ sp⟩]) (hl : zs.length ≤ 100000) (hcap : zs.length ≤ cap) :
  Calls Tryz.prog 104 #[.slice (some ⟨g, 0, none⟩) zs.length cap] w0 fun e w' => ∃ sp', e = .returned (.slice (some ⟨g, 0, none⟩) (cmpT zs zs.length).length cap) ∧ SH w0 [g] w' [⟨g, 3, (cmpT zs zs.length).map I ++ sp'⟩] := by
 have H := H0
 have hcl : ∀ (cur : List Int) (w : World), SH w0 [g] w [⟨g, 3, cur.map I ++ sp⟩] → ∀ k (h : k < cur.length), w.cell? ⟨g, 0 + k, none⟩ = some (I cur[k]) := fun cur w H k hk => by
  obtain ⟨b, o, e, hc⟩ := OnesAt.own (enc := I) (l := cur) (post := sp) H 0 rfl rfl k hk
  cases e; exact hc
 refine Calls.ofWP Tryz.func104 rfl Tryz.results104 Tryz.ntmps104 rfl <| Y.qr <| Y.v (Ev.asS rfl) <| Y.z <| Y.q <| Y.qr <| Y.v (Ev.mvS rfl) <| Y.v (Y.n rfl) <| Y.v (Ev.lss rfl rfl) <| Y.z ?_
 refine WP.cond rfl (fun hc1 => ?_) (fun hc1 => ?_)
 ·refine Y.qr <| Y.v (Ev.mvS rfl) <| Y.v (Ev.asS rfl) <| Y.z ?_
  refine WP.ret ⟨_, rfl, ?_⟩
  have h : zs.length < 2 := by simp at hc1; omega
  have hid : cmpT zs zs.length = zs := by rw [cmpT_id (Nat.le_refl _) (fun j h0 h1 => by omega), List.take_length]
  rw [hid]
  exact ⟨sp, rfl, H⟩
 have h2 : 2 ≤ zs.length := by simp at hc1; omega
 refine Y.k <| Y.q <| Y.qr <| Y.b rfl <| Y.z <| WP.block <| WP.loop [2, 3, 4, 5, 10, 11, 12, 13, 14, 15, 16, 17, 18, 19, 20, 21, 22, 23, 24, 25, 26, 27, 28, 29, 30, 31, 32, 33, 34, 35, 36, 37, 38, 39, 40, 41, 42, 43, 44, 45, 46, 47, 48, 49, 50, 51, 52, 53, 54, 55, 56, 57, 58, 59] (fun k e w' => ∃ (q : Nat), q + 1 + k = zs.length ∧ e 3 = I ((q + 1 : Nat) : Int) ∧ (∀ j, 0 < j → j < q + 1 → zs.getD j 0 ≠ zs.getD (j - 1) 0) ∧ SH w0 [g] w' [⟨g, 3, zs.map I ++ sp⟩]) ((zs.length - 1)) (⟨0, by omega, rfl, fun _ _ _ => by omega, H⟩) ?_
 clear H
 rintro k u w ⟨q, hk, h3, hall, H⟩
 refine WP.know (t := 3) h3 <| Y.q <| Y.qr <| Y.a rfl <| Y.v (Ev.mvS rfl) <| Y.v (Y.n rfl) <| Y.v (Ev.lss rfl rfl) <| Y.z ?_
 refine WP.cond rfl (fun hc4 => ?_) (fun hc4 => ?_)
 ·have hlt : q + 1 < zs.length := by simp at hc4; omega
  have hgq := getI (show q < zs.length by omega)
  have hgq1 := getI hlt
  refine Y.k <| Y.q <| WP.block <| Y.q <| WP.rstill mixed (by kernel_rfl) H ?_
  clear H; intro w hbw6 H
  have hx := hcl zs w H (q + 1) hlt
  have hy := hcl zs w H q (by omega)
  refine Y.v (Ev.mvS rfl) <| Y.a rfl <| Y.v (Y.x rfl rfl rfl rfl) <| Y.v (Y.c (by assumption) rfl) ?_
  refine Y.v (Ev.mvS rfl) <| Y.a rfl <| Y.v (Y.s rfl rfl) ?_
  rw [show (((q + 1 : Nat) : Int) - 1) = (q : Int) by omega]
  refine Y.v (Y.x rfl rfl rfl rfl) <| Y.v (Y.c (by assumption) rfl) ?_
  refine Y.v (Ev.eql rfl rfl) <| OPS.nil_s ?_
  refine WP.cond rfl (fun hc6 => ?_) (fun hc6 => ?_)
  ·have heq : zs[q + 1] = zs[q] := by simpa using hc6
   refine Y.qr <| Y.v (Ev.mvS rfl) <| Y.a rfl <| Y.v (Ev.sliceFrom2 (j := q + 1) (el_run rfl) (size_run rfl) rfl rfl rfl (by omega) (by omega)) <| Y.v (Ev.asS rfl) <| Y.z <| Y.q <| Y.qr <| Y.b rfl <| Y.z <| WP.block <| WP.loop [3, 5, 29, 30, 31, 32, 33, 34, 35, 36, 37, 38, 39, 40, 41, 42, 43, 44, 45, 46, 47, 48, 49, 50, 51, 52, 53] (fun k e w' => ∃ (m i : Nat) (cur : List Int), i + 1 + k = zs.length ∧ e 5 = I ((i - q : Nat) : Int) ∧ q + 1 ≤ i ∧ m ≤ i ∧ e 3 = I m ∧ m = (cmpT zs (i + 1)).length ∧ cur.length = zs.length ∧ cur.take m = cmpT zs (i + 1) ∧ cur.drop i = zs.drop i ∧ SH w0 [g] w' [⟨g, 3, cur.map I ++ sp⟩]) ((zs.length - 1 - (q + 1))) (⟨q + 1, q + 1, zs, by omega, by rw [show q + 1 - q = 1 by omega]; rfl, by omega, by omega, rfl, by rw [cmpT, if_pos ⟨by omega, by rw [hgq1, show q + 1 - 1 = q by omega, hgq]; exact heq⟩, List.append_nil, cmpT_id (by omega) hall]; simp; omega, rfl, by rw [cmpT, if_pos ⟨by omega, by rw [hgq1, show q + 1 - 1 = q by omega, hgq]; exact heq⟩, List.append_nil, cmpT_id (by omega) hall], rfl, H⟩) ?_
   clear H
   rintro k2 u2 w ⟨m, i, cur, hk2, h5, hqi, hmi, h3', hml, hcl2, htk, hdr, H⟩
   refine WP.know (t := 5) h5 (WP.know (t := 3) h3' ?_)
   refine Y.q <| Y.qr <| Y.a rfl <| Y.v (Ev.mvS rfl) <| Y.v (Y.n rfl) <| Y.v (Ev.lss rfl rfl) <| Y.z ?_
   refine WP.cond rfl (fun hc9 => ?_) (fun hc9 => ?_)
   ·have hlt2 : i + 1 < zs.length := by simp at hc9; omega
    have hgi := getI (show i < zs.length by omega)
    have hgi1 := getI hlt2
    have hci : cur[i]'(by omega) = zs[i] := by
     have := congrArg (fun l => l[0]?) hdr
     simp only [List.getElem?_drop, Nat.add_zero] at this
     rw [List.getElem?_eq_getElem (by omega), List.getElem?_eq_getElem (by omega)] at this
     exact Option.some.inj this
    have hci1 : cur[i + 1]'(by omega) = zs[i + 1] := by
     have := congrArg (fun l => l[1]?) hdr
     simp only [List.getElem?_drop] at this
     rw [List.getElem?_eq_getElem (by omega), List.getElem?_eq_getElem (by omega)] at this
     exact Option.some.inj this
    have hnx : cmpT zs (i + 1 + 1) = cmpT zs (i + 1) ++ if zs[i + 1] = zs[i] then [] else [zs[i + 1]] := by
     rw [cmpT, hgi1, show i + 1 - 1 = i by omega, hgi]
     by_cases hh : zs[i + 1] = zs[i]
     ·rw [if_pos ⟨by omega, hh⟩, if_pos hh]
     ·rw [if_neg (fun x => hh x.2), if_neg hh]
    have hiq : 0 + (q + 1) * 1 + (i - q) = 0 + (i + 1) := by omega
    have hiq2 : 0 + (q + 1) * 1 + (i - q - 1) = 0 + i := by omega
    refine Y.k <| Y.q <| WP.block <| Y.q <| WP.rstill mixed (by kernel_rfl) H ?_
    clear H; intro w hbw11 H
    have hx := hcl cur w H (i + 1) (by omega)
    have hy := hcl cur w H i (by omega)
    rw [hci1, ← hiq] at hx
    rw [hci, ← hiq2] at hy
    refine Y.v (Ev.mvS rfl) <| Y.a rfl <| Y.v (Y.x rfl rfl rfl rfl) <| Y.v (Y.c (by assumption) rfl) ?_
    refine Y.v (Ev.mvS rfl) <| Y.a rfl <| Y.v (Y.s rfl rfl) ?_
    rw [show (((i - q : Nat) : Int) - 1) = ((i - q - 1 : Nat) : Int) by omega]
    refine Y.v (Y.x rfl rfl rfl rfl) <| Y.v (Y.c (by assumption) rfl) ?_
    refine Y.v (Ev.neq rfl rfl) <| OPS.nil_s ?_
    refine WP.cond rfl (fun hc11 => ?_) (fun hc11 => ?_)
    ·refine Y.q ?_
     have hne : zs[i + 1] ≠ zs[i] := by simpa using hc11
     rw [if_neg hne] at hnx
     have hx' := hcl cur w H (i + 1) (by omega)
     rw [hci1, ← hiq] at hx'
     refine Y.r <| Y.v (Ev.mvS rfl) <| Y.a rfl <| Y.v (Ev.mvS rfl) <| Y.a rfl <| Y.v (Y.x rfl rfl rfl rfl) <| Y.v (Y.c (by assumption) rfl) ?_
     refine Y.v (Y.x rfl rfl rfl rfl) <| OPS.store (b := ⟨g, 3, cur.map I ++ sp⟩) 0 (0 + m) rfl rfl rfl (size_run rfl) rfl (cI (n := zs[i + 1]) rfl) rfl rfl H rfl (by simp; omega) ?_
     clear H; intro w H
     simp only [List.set_cons_zero] at H
     rw [Nat.zero_add, putL_pre (enc := I) cur sp m zs[i + 1] (by omega)] at H
     refine Y.z <| Y.r <| Y.a rfl <| Y.v (Y.p rfl rfl) <| Y.b rfl <| Y.z <| Y.r <| Y.a rfl <| Y.v (Y.p rfl rfl) <| Y.b rfl <| Y.z ?_
     first
      | exact ⟨Y.ag, k2 - 1, by omega, m, i + 1, cur, by omega, (by rw [show i + 1 - q = (i - q) + 1 by omega, Int.natCast_add]; rfl), by omega, by omega, rfl, by rw [hnx]; exact hml, hcl2, by rw [hnx]; exact htk, by rw [← List.drop_drop, ← List.drop_drop, hdr], H⟩
      | exact ⟨Y.ag, k2 - 1, by omega, m + 1, i + 1, cur.set m zs[i + 1], by omega, (by rw [show i + 1 - q = (i - q) + 1 by omega, Int.natCast_add]; rfl), by omega, by omega, rfl, by rw [hnx, List.length_append, ← hml]; rfl, by rw [List.length_set]; exact hcl2, by rw [hnx, List.take_succ_eq_append_getElem (by rw [List.length_set]; omega), List.take_set_of_le (Nat.le_refl _), htk, List.getElem_set_self], by rw [List.drop_set_of_lt (by omega), ← List.drop_drop, ← List.drop_drop, hdr], H⟩
    have heq2 : zs[i + 1] = zs[i] := by simpa using hc11
    rw [if_pos heq2, List.append_nil] at hnx
    refine Y.k <| Y.r <| Y.a rfl <| Y.v (Y.p rfl rfl) <| Y.b rfl <| Y.z ?_
    first
     | exact ⟨Y.ag, k2 - 1, by omega, m, i + 1, cur, by omega, (by rw [show i + 1 - q = (i - q) + 1 by omega, Int.natCast_add]; rfl), by omega, by omega, rfl, by rw [hnx]; exact hml, hcl2, by rw [hnx]; exact htk, by rw [← List.drop_drop, ← List.drop_drop, hdr], H⟩
     | exact ⟨Y.ag, k2 - 1, by omega, m + 1, i + 1, cur.set m zs[i + 1], by omega, (by rw [show i + 1 - q = (i - q) + 1 by omega, Int.natCast_add]; rfl), by omega, by omega, rfl, by rw [hnx, List.length_append, ← hml]; rfl, by rw [List.length_set]; exact hcl2, by rw [hnx, List.take_succ_eq_append_getElem (by rw [List.length_set]; omega), List.take_set_of_le (Nat.le_refl _), htk, List.getElem_set_self], by rw [List.drop_set_of_lt (by omega), ← List.drop_drop, ← List.drop_drop, hdr], H⟩
   have hi : i + 1 = zs.length := by simp at hc9; omega
   rw [hi] at htk hml
   refine WP.exit <| XB.hit <| Y.qr <| Y.v (Ev.mvS rfl) <| Y.a rfl <| Y.v (Ev.sliceFrom2 (j := m) (el_run rfl) (size_run rfl) rfl rfl rfl (by omega) (by omega)) <| OPS.clear (b := ⟨g, 3, cur.map I ++ sp⟩) 0 (0 + m * 1) rfl rfl rfl (zs := [I 0]) (el_run rfl) (zero_run rfl) rfl (by decide) rfl rfl (by omega) H rfl (by simp; omega) ?_
   clear H; intro w H
   simp only [List.set_cons_zero] at H
   refine Y.z <| Y.qr <| Y.v (Ev.mvS rfl) <| Y.a rfl <| Y.v (Ev.sliceTo (j := m) (el_run rfl) ⟨1, size_run rfl⟩ rfl rfl rfl (by omega)) <| Y.v (Ev.asS rfl) <| Y.z ?_
   refine WP.ret ⟨_, rfl, ?_⟩
   refine ⟨(putL (cur.map I ++ sp) (0 + m * 1) (mkL (zs.length - m) [I 0])).drop m, by rw [← hml]; rfl, ?_⟩
   have hpt : ∀ (vs cs : List Value) (k : Nat), m ≤ k → (putL cs k vs).take m = cs.take m := fun vs => by
    induction vs with
    | nil => intro cs k _; rfl
    | cons v vs ih =>
     intro cs k hk
     rw [putL, ih _ _ (by omega), List.take_set_of_le (by omega)]
   have hfin : putL (cur.map I ++ sp) (0 + m * 1) (mkL (zs.length - m) [I 0]) = (cmpT zs zs.length).map I ++ (putL (cur.map I ++ sp) (0 + m * 1) (mkL (zs.length - m) [I 0])).drop m := by
    conv => lhs; rw [← List.take_append_drop m (putL (cur.map I ++ sp) (0 + m * 1) (mkL (zs.length - m) [I 0]))]
    rw [hpt _ _ _ (by omega), List.take_append_of_le_length (by simp; omega), ← List.map_take, htk]
   rw [← hfin]
   exact H
  have hne : zs[q + 1] ≠ zs[q] := by simpa using hc6
  refine Y.k <| Y.r <| Y.a rfl <| Y.v (Y.p rfl rfl) <| Y.b rfl <| Y.z ?_
  exact ⟨Y.ag, k - 1, by omega, q + 1, by omega, rfl, (fun j h0 h1 => by
   by_cases hj : j < q + 1
   ·exact hall j h0 hj
   ·obtain rfl : j = q + 1 := by omega
    rw [hgq1, show q + 1 - 1 = q by omega, hgq]; exact hne), H⟩
 refine WP.exit <| XB.hit <| Y.qr <| Y.v (Ev.mvS rfl) <| Y.v (Ev.asS rfl) <| Y.z ?_
 refine WP.ret ⟨_, rfl, ?_⟩
 have hq : q + 1 = zs.length := by simp at hc4; omega
 have hid : cmpT zs zs.length = zs := by rw [cmpT_id (Nat.le_refl _) (fun j h0 h1 => hall j h0 (by omega)), List.take_length]
 rw [hid]
 exact ⟨sp, rfl, H⟩
theorem cmpT_mem {zs : List Int} : ∀ {i : Nat}, i ≤ zs.length → ∀ x, x ∈ cmpT zs i ↔ x ∈ zs.take i
 | 0, _, x => by simp [cmpT]
 | i + 1, hi, x => by
  have ih := cmpT_mem (zs := zs) (i := i) (by omega) x
  rw [cmpT, List.mem_append, ih, List.take_succ_eq_append_getElem (show i < zs.length by omega), List.mem_append, getI (show i < zs.length by omega)]
  by_cases hc : 0 < i ∧ zs[i] = zs.getD (i - 1) 0
  ·rw [if_pos hc]
   simp only [List.not_mem_nil, or_false, List.mem_singleton]
   refine ⟨.inl, fun h => ?_⟩
   rcases h with h | h
   ·exact h
   ·rw [h, hc.2, getI (show i - 1 < zs.length by omega)]
    exact List.mem_take_iff_getElem.2 ⟨i - 1, by omega, rfl⟩
  ·rw [if_neg hc]
theorem cmpT_sorted {zs : List Int} (hs : zs.Pairwise fun x y => x ≤ y) : ∀ {i : Nat}, i ≤ zs.length → (cmpT zs i).Pairwise fun x y => x < y
 | 0, _ => by simp [cmpT]
 | i + 1, hi => by
  rw [cmpT, List.pairwise_append]
  refine ⟨cmpT_sorted hs (by omega), by split <;> simp, fun x hx y hy => ?_⟩
  rw [cmpT_mem (by omega)] at hx
  split at hy
  ·cases hy
  ·rename_i hc
   rw [getI (show i < zs.length by omega)] at hc hy
   rw [List.mem_singleton.1 hy]
   obtain ⟨j, hj, rfl⟩ := List.mem_take_iff_getElem.1 hx
   have hp := List.pairwise_iff_getElem.1 hs
   have h1 : zs[j] ≤ zs[i - 1]'(by omega) := by
    by_cases hji : j = i - 1
    ·subst hji; exact Int.le_refl _
    ·exact hp j (i - 1) (by omega) (by omega) (by omega)
   have h2 : zs[i - 1]'(by omega) ≤ zs[i] := hp (i - 1) i (by omega) (by omega) (by omega)
   rw [getI (show i - 1 < zs.length by omega)] at hc
   have : ¬ zs[i] = zs[i - 1]'(by omega) := fun h => hc ⟨by omega, h⟩
   omega
def srt (l : List Int) : List Int := l.mergeSort fun x y => decide (x ≤ y)
theorem srt_perm (l : List Int) : (srt l).Perm l := List.mergeSort_perm l _
theorem srt_len (l : List Int) : (srt l).length = l.length := (srt_perm l).length_eq
theorem srt_sorted (l : List Int) : (srt l).Pairwise fun x y => x ≤ y := by
 have := List.pairwise_mergeSort (le := fun x y : Int => decide (x ≤ y)) (fun a b c h1 h2 => by simp at *; omega) (fun a b => by simp; omega) l
 exact this.imp fun h => by simpa using h
theorem sortOwn (g : Nat) (zs : List Int) (sp : List Value) (cap : Nat) (w0 : World) (hb : w0.heap[g]? = some (.cells (zs.map I ++ sp).toArray 3 (0, 0))) (hlen : zs.length ≤ 1000000) :
  Calls Tryz.prog 127 #[.slice (some ⟨g, 0, none⟩) zs.length cap] w0 fun e w' => e = .returned (.tuple #[]) ∧ SH w0 [g] w' [⟨g, 3, (srt zs).map I ++ sp⟩] := by
 have hg : g < w0.heap.size := (Array.getElem?_eq_some_iff.1 hb).1
 have hH : Sort.Holds (Value.int .i64) w0 g 0 zs.toArray := holds_of_blockI hb (by simp)
 refine (Tryz.slices_Sort_int g 0 cap zs w0 hH hg (by omega)).mono ?_
 rintro e w' ⟨rfl, n, os, rfl⟩
 have hgr := grownBy_sortedI (w := w0) (g := g) (n := n) (os := os) (srt zs).toArray
 have hh := heap_sortedI (w := w0) (n := n) (os := os) (srt zs).toArray hb
 have hl := srt_len zs
 have hcells : Sort.putCells (Value.int .i64) 0 (srt zs).toArray (zs.map I ++ sp).toArray = ((srt zs).map I ++ sp).toArray := by
  apply Array.ext_getElem?
  intro k
  simp only [Sort.putCells, Array.getElem?_mapIdx, List.getElem?_toArray]
  by_cases hk : k < zs.length
  ·have h1 : k < (zs.map I).length := by simpa using hk
   have h2 : k < ((srt zs).map I).length := by simp; omega
   rw [List.getElem?_append_left h1, List.getElem?_append_left h2, List.getElem?_eq_getElem h1, List.getElem?_eq_getElem h2]
   simp [hl, hk, show k < (srt zs).length by omega]
  ·rw [List.getElem?_append_right (by simp; omega), List.getElem?_append_right (by simp; omega)]
   simp only [List.length_map, hl]
   cases sp[k - zs.length]? with
   | none => rfl
   | some v => simp [hl, hk]
 rw [hcells] at hh
 exact ⟨rfl, hgr.os, hgr.tape, hgr.output, hgr.size, fun k hk hS => hgr.block k hk (by simp at hS; simpa using hS), fun b hb => by
  obtain rfl : b = ⟨g, 3, (srt zs).map I ++ sp⟩ := by simpa using hb
  exact hh, fun b hb => by
  obtain rfl : b = ⟨g, 3, (srt zs).map I ++ sp⟩ := by simpa using hb
  exact .inr (by simp), by simp⟩
theorem ints_it {w : World} {A : Option Addr} {l : List Int} (h : IntsAt w A l) : It.Ints w.heap.size w A l := by
 cases l with
 | nil => exact .inl rfl
 | cons x l =>
  obtain ⟨b, o, rfl, h0⟩ := h 0 (by simp)
  refine .inr ⟨b, o, rfl, World.block_lt_of_cell? w _ h0, fun j hj => ?_⟩
  obtain ⟨b', o', e, hc⟩ := h j hj
  cases e
  rw [List.getElem?_eq_getElem hj]
  exact hc
theorem slAppendSeq (g : Nat) (A : Option Addr) (l : List Int) (cap : Nat) (w0 : World) (hz : IntsAt w0 A l) (hl : l.length ≤ 1000) (hg : w0.heap[g]? = some (.cells #[.slice A l.length cap] 32 (0, 0))) :
  Calls Tryz.prog 143 #[.slice none 0 0, .func (.func 128) #[] #[.pointer (some ⟨g, 0, none⟩)]] w0 fun e w' => ∃ (A' : Option Addr) (c : Nat) (Lo : List Blk), e = .returned (.slice A' l.length c) ∧ OwnS A' c l.length (l.map I) 3 1 Lo ∧ SH w0 [] w' Lo := by
 have hlt : g < w0.heap.size := (Array.getElem?_eq_some_iff.1 hg).1
 refine (callsIn_wide.1 (It.appendSeq 3 (by omega) g A cap l (by unfold maxLen; omega) (by omega) w0 hlt (by simp [World.cell?, hg]) (ints_it hz))).mono ?_
 rintro e w' ⟨v, rfl, hO, _, hB⟩
 rcases hO.2 with ⟨rfl, h0⟩ | ⟨g', c, cur, rfl, h1, h2, h3, h4, h5, h6⟩
 ·have : l = [] := List.eq_nil_of_length_eq_zero h0
  subst this
  exact ⟨none, 0, [], rfl, OwnS.nil, hB.os, hB.tape, hB.output, hB.size, fun k hk _ => hB.block k hk, by simp, by simp, by simp⟩
 ·have hcur : cur.toList = l.map I ++ cur.toList.drop l.length := by
   have := List.take_append_drop l.length cur.toList
   rw [Nat.mul_one] at h6
   rw [h6] at this
   exact this.symm
  refine ⟨some ⟨g', 0, none⟩, c, [⟨g', 3, cur.toList⟩], rfl, ⟨by simp, .inr ⟨g', cur.toList.drop l.length, rfl, by rw [← hcur], h3, h4, by rw [← hcur]; simpa using h5⟩⟩, hB.os, hB.tape, hB.output, hB.size, fun k hk _ => hB.block k hk, fun b hb => ?_, fun b hb => ?_, by simp⟩
  ·obtain rfl : b = ⟨g', 3, cur.toList⟩ := by simpa using hb
   simpa using h2
  ·obtain rfl : b = ⟨g', 3, cur.toList⟩ := by simpa using hb
   exact .inl h1
theorem slCollect (g : Nat) (A : Option Addr) (l : List Int) (cap : Nat) (w0 : World) (hz : IntsAt w0 A l) (hl : l.length ≤ 1000) (hg : w0.heap[g]? = some (.cells #[.slice A l.length cap] 32 (0, 0))) :
  Calls Tryz.prog 126 #[.func (.func 128) #[] #[.pointer (some ⟨g, 0, none⟩)]] w0 fun e w' => ∃ (A' : Option Addr) (c : Nat) (Lo : List Blk), e = .returned (.slice A' l.length c) ∧ OwnS A' c l.length (l.map I) 3 1 Lo ∧ SH w0 [] w' Lo := by
 have H := SH.refl w0
 refine Calls.ofWP Tryz.func126 rfl Tryz.results126 Tryz.ntmps126 rfl <| Y.qr <| Y.v (Ev.asS rfl) <| Y.z <| Y.qr <| Y.v (Ev.mvF rfl) <| OPS.call (d := some 4) rfl rfl rfl (EvC.func (fun_run rfl)) (slAppendSeq g A l cap w0 hz hl hg) ?_
 rintro _ w ⟨A', c, Lo, rfl, hO, Hc⟩
 refine ⟨_, rfl, ?_⟩
 replace H := Hc
 refine Y.v (Ev.asS rfl) <| Y.z ?_
 refine WP.ret ⟨_, rfl, ?_⟩
 exact ⟨A', c, Lo, rfl, hO, H⟩
theorem sortS (A : Option Addr) (c : Nat) (zs : List Int) (Lo : List Blk) (w0 : World) (hl : zs.length ≤ 1000) (hO : OwnS A c zs.length (zs.map I) 3 1 Lo) (H0 : SH w0 (Lo.map (·.g)) w0 Lo) :
  Calls Tryz.prog 127 #[.slice A zs.length c] w0 fun e w' => ∃ Lo', e = .returned (.tuple #[]) ∧ OwnS A c zs.length ((srt zs).map I) 3 1 Lo' ∧ SH w0 (Lo.map (·.g)) w' Lo' := by
 have hsl := srt_len zs
 rcases hO.form with ⟨rfl, h0, rfl, rfl⟩ | ⟨g, sp, rfl, rfl, h1, h2, h3⟩
 ·have : zs = [] := List.eq_nil_of_length_eq_zero h0
  subst this
  refine (Tryz.slices_Sort_int_none none 0 w0).mono ?_
  rintro e w' ⟨rfl, rfl⟩
  exact ⟨[], rfl, ⟨by simp [srt], .inl ⟨rfl, rfl, rfl, rfl⟩⟩, H0⟩
 ·refine (sortOwn g zs sp c w0 (H0.own ⟨g, 3, zs.map I ++ sp⟩ (by simp)) (by omega)).mono ?_
  rintro e w' ⟨rfl, Hc⟩
  exact ⟨_, rfl, ⟨by simp [hsl], .inr ⟨g, sp, rfl, rfl, h1, h2, by simpa [hsl] using h3⟩⟩, Hc⟩
theorem slSorted (g : Nat) (A : Option Addr) (l : List Int) (cap : Nat) (w0 : World) (hz : IntsAt w0 A l) (hl : l.length ≤ 1000) (hg : w0.heap[g]? = some (.cells #[.slice A l.length cap] 32 (0, 0))) :
  Calls Tryz.prog 102 #[.func (.func 128) #[] #[.pointer (some ⟨g, 0, none⟩)]] w0 fun e w' => ∃ (A' : Option Addr) (c : Nat) (Lo : List Blk), e = .returned (.slice A' l.length c) ∧ OwnS A' c l.length ((srt l).map I) 3 1 Lo ∧ SH w0 [] w' Lo := by
 have H := SH.refl w0
 refine Calls.ofWP Tryz.func102 rfl Tryz.results102 Tryz.ntmps102 rfl <| Y.qr <| Y.v (Ev.asS rfl) <| Y.z <| Y.qr <| Y.v (Ev.mvF rfl) <| OPS.call (d := some 5) rfl rfl rfl (EvC.func (fun_run rfl)) (slCollect g A l cap w0 hz hl hg) ?_
 rintro _ w ⟨A', c, Lo, rfl, hO, Hc⟩
 refine ⟨_, rfl, ?_⟩
 replace H := Hc
 clear Hc
 refine Y.v (Ev.asS rfl) <| Y.z <| Y.qr <| Y.v (Ev.mvS rfl) <| OPS.call (d := some 7) rfl rfl rfl (EvC.func (fun_run rfl)) (sortS A' c l Lo w hl hO (H.restart (List.Sublist.refl _))) ?_
 rintro _ w ⟨Lo', rfl, hO', Hc⟩
 refine ⟨_, rfl, ?_⟩
 replace H := SH.call (L1 := []) (Lv := Lo) H Hc
 refine Y.z <| Y.qr <| Y.v (Ev.mvS rfl) <| Y.v (Ev.asS rfl) <| Y.z ?_
 refine WP.ret ⟨_, rfl, ?_⟩
 exact ⟨A', c, Lo', rfl, hO', H⟩
theorem slValues (A : Option Addr) (n cap : Nat) (w0 : World) :
  Calls Tryz.prog 103 #[.slice A n cap] w0 fun e w' => ∃ g, e = .returned (.func (.func 128) #[] #[.pointer (some ⟨g, 0, none⟩)]) ∧ SH w0 [] w' [⟨g, 32, [.slice A n cap]⟩] := by
 have H := SH.refl w0
 refine Calls.ofWP Tryz.func103 rfl Tryz.results103 Tryz.ntmps103 rfl <| Y.qr <| OPS.box rfl rfl rfl rfl (cS rfl) H ?_
 clear H; intro g1 w H
 refine Y.v (Ev.assign) <| Y.z <| Y.qr <| Y.v (Ev.makeFunc) <| Y.v (Ev.asF rfl) <| Y.z ?_
 refine WP.ret ⟨_, rfl, ?_⟩
 exact ⟨_, rfl, H⟩
end Go.Proofs.YtgcokllbophkkaaGreat
namespace Go.Proofs.YtgcokllbophkkaaGreat
open Go Go.W Go.RowKit
theorem cmpT_sub (zs : List Int) : ∀ {i : Nat}, i ≤ zs.length → (cmpT zs i).Sublist (zs.take i)
 | 0, _ => by simp [cmpT]
 | i + 1, h => by
  rw [cmpT, List.take_succ_eq_append_getElem (show i < zs.length by omega)]
  refine List.Sublist.append (cmpT_sub zs (by omega)) ?_
  split
  ·exact List.nil_sublist _
  ·rw [getI (show i < zs.length by omega)]; exact List.Sublist.refl _
theorem cmpT_nodup (l : List Int) : (cmpT (srt l) l.length).length = l.length ↔ l.Nodup := by
 have hl := srt_len l
 constructor
 ·intro h
  have h1 := cmpT_sub (srt l) (i := l.length) (by omega)
  rw [show (srt l).take l.length = srt l by rw [← hl, List.take_length]] at h1
  have h2 := h1.eq_of_length (by omega)
  have h3 := cmpT_sorted (srt_sorted l) (i := l.length) (by omega)
  rw [h2] at h3
  exact (srt_perm l).nodup_iff.1 (List.nodup_iff_pairwise_ne.2 (h3.imp fun h => by omega))
 ·intro h
  have h1 := (srt_perm l).nodup_iff.2 h
  rw [cmpT_id (by omega) (fun j h0 hj => ?_), List.length_take]
  ·omega
  ·rw [getI (show j < (srt l).length by omega), getI (show j - 1 < (srt l).length by omega)]
   intro he
   have := (List.getElem_inj h1).1 he
   omega
theorem compS (A : Option Addr) (c : Nat) (zs : List Int) (Lo : List Blk) (w0 : World) (hl : zs.length ≤ 1000) (hO : OwnS A c zs.length (zs.map I) 3 1 Lo) (H0 : SH w0 (Lo.map (·.g)) w0 Lo) :
  Calls Tryz.prog 104 #[.slice A zs.length c] w0 fun e w' => ∃ Lo', e = .returned (.slice A (cmpT zs zs.length).length c) ∧ SH w0 (Lo.map (·.g)) w' Lo' := by
 rcases hO.form with ⟨rfl, h0, rfl, rfl⟩ | ⟨g, sp, rfl, rfl, h1, h2, h3⟩
 ·have : zs = [] := List.eq_nil_of_length_eq_zero h0
  subst this
  refine (Tryz.slices_Compact_int_empty none 0 w0).mono ?_
  rintro e w' ⟨rfl, rfl⟩
  exact ⟨[], rfl, H0⟩
 ·refine (slCompact g zs sp c w0 H0 (by omega) h1).mono ?_
  rintro e w' ⟨sp', rfl, Hc⟩
  exact ⟨_, rfl, Hc⟩
def askErr (n : Int) (l : List Edg) (ts : List Truck) (ns : List Need) (hd rt : Int) (rn : List Int) : Int :=
 if nightErr n l ts ns hd ≠ 0 then nightErr n l ts ns hd else if routeErr ts ns rt rn ≠ 0 then routeErr ts ns rt rn else if 6 < rn.length then 8 else 0
theorem routeCheckF (i : Int) (g k cc : Nat) (C : Option Addr) (w0 : World) (hk : k ≤ 1000) (hc : w0.cell? ⟨g, 3, none⟩ = some (.slice C k cc)) :
  Calls Tryz.prog 101 #[I i, .pointer (some ⟨g, 0, none⟩)] w0 fun e w' => e = .returned (.bool (outB k i)) ∧ Below w0.heap.size w0 w' := by
 have H := SH.refl w0
 have he : outB k i = (decide (i < 0) || decide ((k : Int) ≤ i)) := by
  unfold outB inB
  rw [Bool.eq_iff_iff]; simp; omega
 rw [he]
 refine Calls.ofWP Tryz.func101 rfl Tryz.results101 Tryz.ntmps101 rfl <| Y.qr <| Y.v (Ev.asB rfl) <| Y.z <| Y.qr <| Y.a rfl <| Y.v (Ev.lss rfl rfl) <| Y.v (Ev.mvB rfl) <| Y.g rfl rfl (fun hg => Y.m rfl) <| Y.g rfl rfl (fun hg => Y.f rfl rfl) <| Y.g rfl rfl (fun hg => Ev.load1 (agg_run rfl) (gvE hg rfl) (H.ld0 (by assumption))) ?_
 refine Y.g rfl rfl (fun hg => Ev.len (el_run rfl) (gvE hg rfl)) <| Y.g rfl rfl (fun hg => Ev.geq (gvE hg rfl) (gvE hg rfl)) <| Y.v (Ev.pickOr rfl rfl rfl) <| Y.v (Ev.asB rfl) <| Y.z ?_
 refine WP.ret ⟨_, rfl, ?_⟩
 exact ⟨rfl, H.below⟩
theorem routeCheck (n hd rt : Int) (A B C R : Option Addr) (l : List Edg) (ts : List Truck) (ns : List Need) (rn : List Int) (ca cb cc cr : Nat) (w0 : World) (hz : EdgsAt w0 A l) (ht : RowsAt 4 truckCells w0 B ts) (hn : RowsAt 2 needCells w0 C ns) (hcc : ns.length ≤ cc) (hr : IntsAt w0 R rn) (hrl : rn.length ≤ 1000) :
  Calls Tryz.prog 81 #[.agg #[I n, .slice A l.length ca, .slice B ts.length cb, .slice C ns.length cc, I hd], I rt, .slice R rn.length cr] w0 fun e w' => e = .returned (I (askErr n l ts ns hd rt rn)) ∧ Below w0.heap.size w0 w' := by
 have H := SH.refl w0
 have hsl := srt_len rn
 refine Calls.ofWP Tryz.func81 rfl Tryz.results81 Tryz.ntmps81 rfl <| Y.qr <| Y.bx (cA rfl) H ?_
 clear H; intro g3 w H
 refine Y.b rfl <| Y.z <| Y.q <| Y.qr <| Y.v (Y.o H 0 rfl rfl) <| OPS.call (d := some 11) rfl rfl rfl (EvC.func (fun_run rfl)) (truckCheck n hd A B C l ts ns ca cb cc w (hz.sh H) (ht.sh H) (hn.sh H) hcc) ?_
 rintro _ w ⟨rfl, hb⟩
 refine ⟨_, rfl, ?_⟩
 replace H := H.toBelow hb; clear hb
 refine Y.b rfl <| Y.z <| Y.qr <| Y.a rfl <| Y.v (Ev.neq rfl rfl) <| Y.z ?_
 refine WP.cond rfl (fun hc2 => ?_) (fun hc2 => ?_)
 ·refine Y.qr <| Y.a rfl <| Y.b rfl <| Y.z ?_
  refine WP.ret ⟨_, rfl, ?_⟩
  have h : nightErr n l ts ns hd ≠ 0 := by simpa using hc2
  exact ⟨by rw [askErr, if_pos h]; rfl, H.below⟩
 have h0 : nightErr n l ts ns hd = 0 := by simpa using hc2
 obtain ⟨m, rfl, hN⟩ := nightOk_of h0
 have htl := hN.tl
 have hnl := hN.nl
 have he0 : askErr m l ts ns hd rt rn = if routeErr ts ns rt rn ≠ 0 then routeErr ts ns rt rn else if 6 < rn.length then 8 else 0 := by rw [askErr, if_neg (by simp [h0])]
 have hout : outB ts.length rt = (decide (rt < 0) || decide ((ts.length : Int) ≤ rt)) := by
  unfold outB inB
  rw [Bool.eq_iff_iff]; simp; omega
 refine Y.k <| Y.qr <| Y.v (Ev.makeFunc) <| Y.v (Ev.asF rfl) <| Y.z <| Y.q <| Y.qr <| Y.a rfl <| Y.v (Ev.lss rfl rfl) <| Y.v (Ev.mvB rfl) <| Y.g rfl rfl (fun hg => Y.m rfl) <| Y.g rfl rfl (fun hg => Y.f rfl rfl) <| Y.y rfl rfl H 0 (fun hg => gvE hg rfl) rfl rfl <| Y.g rfl rfl (fun hg => Ev.len (el_run rfl) (gvE hg rfl)) <| Y.g rfl rfl (fun hg => Ev.geq (gvE hg rfl) (gvE hg rfl)) <| Y.v (Ev.pickOr rfl rfl rfl) <| Y.v (Ev.mvB rfl) <| Y.g rfl rfl (fun hg => Ev.mvS rfl) <| Y.g rfl rfl (fun hg => Ev.mvF rfl) <| OPS.gcall0 (f := 73) (slContainsFuncI R rn cr _ [.pointer (some ⟨g3, 0, none⟩)] (outB ns.length) _ (hr.sh H) (by unfold maxLen; omega) rfl (fun i _ w2 hb => routeCheckF i g3 ns.length cc C w2 (by omega) (cell_below hb (H.ldL 0 rfl 3 rfl)))) (fun _ _ h => h) rfl rfl rfl rfl rfl (fun hg => EvC.conv (EvC.func (fun_run rfl)) (l2 (gvE hg rfl) (gvE hg rfl))) ?_
 intro w hbc; replace H := H.toBelow hbc
 refine Y.v (Ev.pickOr rfl rfl rfl) <| Y.z ?_
 refine WP.cond rfl (fun hc5 => ?_) (fun hc5 => ?_)
 ·refine Y.qr <| Y.b rfl <| Y.z ?_
  refine WP.ret ⟨_, rfl, ?_⟩
  have he : routeErr ts ns rt rn = 7 := by
   unfold routeErr
   rw [if_pos]
   rw [hout]; simpa using hc5
  exact ⟨by rw [he0, he]; rfl, H.below⟩
 have hno : ¬ (outB ts.length rt = true ∨ rn.any (outB ns.length) = true) := by rw [hout]; simpa using hc5
 have he1 : routeErr ts ns rt rn = if twiceB rn = true then 6 else 0 := by
  unfold routeErr
  rw [if_neg hno]
 refine Y.k <| Y.qr <| Y.v (Ev.mvS rfl) <| OPS.call (d := some 31) rfl rfl rfl (EvC.func (fun_run rfl)) (slValues R rn.length cr w) ?_
 rintro _ w ⟨gv, rfl, Hc⟩
 refine ⟨_, rfl, ?_⟩
 replace H := SH.call (L1 := []) (Lv := []) (H.drop (List.nil_sublist _)) Hc
 clear Hc
 refine OPS.call (d := some 32) rfl rfl rfl (EvC.func (fun_run rfl)) (slSorted gv R rn cr w (hr.sh H) hrl (by have := H.own ⟨gv, 32, [.slice R rn.length cr]⟩ (by simp); simpa using this)) ?_
 rintro _ w ⟨S, c, Lo, rfl, hO, Hc⟩
 refine ⟨_, rfl, ?_⟩
 replace H := SH.call (L1 := []) (Lv := []) (H.drop (List.nil_sublist _)) Hc
 clear Hc
 have hcm := cmpT_nodup rn
 rw [← hsl] at hO
 rw [← hsl]
 refine Y.v (Ev.asS rfl) <| Y.z <| Y.q <| Y.qr <| Y.v (Ev.mvS rfl) <| OPS.call (d := some 34) rfl rfl rfl (EvC.func (fun_run rfl)) (compS S c (srt rn) Lo w (by omega) hO (H.restart (List.Sublist.refl _))) ?_
 rintro _ w ⟨Lo', rfl, Hc⟩
 refine ⟨_, rfl, ?_⟩
 replace H := SH.call (L1 := []) (Lv := Lo) H Hc
 refine Y.v (Y.n rfl) <| Y.v (Ev.mvS rfl) <| Y.v (Y.n rfl) <| Y.v (Ev.neq rfl rfl) <| Y.z ?_
 refine WP.cond rfl (fun hc8 => ?_) (fun hc8 => ?_)
 ·refine Y.qr <| Y.b rfl <| Y.z ?_
  refine WP.ret ⟨_, rfl, ?_⟩
  have he : routeErr ts ns rt rn = 6 := by
   rw [he1, if_pos]
   have : (cmpT (srt rn) (srt rn).length).length ≠ rn.length := by simp at hc8; omega
   unfold twiceB
   rw [hsl] at this
   simpa using fun h => this (hcm.2 h)
  exact ⟨by rw [he0, he]; rfl, H.below⟩
 have he : routeErr ts ns rt rn = 0 := by
  rw [he1, if_neg]
  have : (cmpT (srt rn) (srt rn).length).length = rn.length := by simp at hc8; omega
  unfold twiceB
  rw [hsl] at this
  simpa using hcm.1 this
 refine Y.k <| Y.q <| Y.qr <| Y.v (Ev.mvS rfl) <| Y.v (Y.n rfl) <| Y.v (Ev.gtr rfl rfl) <| Y.z ?_
 refine WP.cond rfl (fun hc10 => ?_) (fun hc10 => ?_)
 ·refine Y.qr <| Y.b rfl <| Y.z ?_
  refine WP.ret ⟨_, rfl, ?_⟩
  exact ⟨by rw [he0, he, if_neg (by simp), if_pos (by simp at hc10; omega)]; rfl, H.below⟩
 refine Y.k <| Y.qr <| Y.b rfl <| Y.z ?_
 refine WP.ret ⟨_, rfl, ?_⟩
 exact ⟨by rw [he0, he, if_neg (by simp), if_neg (by simp at hc10; omega)]; rfl, H.below⟩
end Go.Proofs.YtgcokllbophkkaaGreat
