/-
 Walk: solve.
-/
import Derived.Test.YtgjfjbphngamgaaB1
import Derived.Test.YtgjfjbphngamgaaNest
import Derived.Test.YtgjfjbphngamgaaT15
set_option linter.all false
namespace Go.Proofs.Ytgjfjbphngamgaa
open Go Go.W Go.RowKit
def bndL (s b : Int) (AU : Option Addr) (nu cu : Nat) (AV : Option Addr) (nv cv : Nat) : List Value := [I s, I b, .slice AU nu cu, .slice AV nv cv]
theorem boundNetwork2 {C D : List Int} {tm : List (List Int)} (Ac Ab At : Option Addr) (cs bs : List Need) (rs : List (SlA Int)) (kc kb kt : Nat) (cp hv wt : Int) (w0 : World) (hT : TaskAt w0 Ac Ab At cs bs rs) (hK : TaskOk cs bs rs) (hC : C = cs.map (·.move)) (hD : D = bs.map fun x => -x.move) (htm : tm = rs.map (·.l)) :
  Calls Try.prog 40 #[.agg (tskC Ac Ab At cs.length bs.length rs.length kc kb kt cp hv wt).toArray] w0 fun e w' => ∃ (A : Option Addr) (cap : Nat) (L : List Blk), e = .returned (.agg #[I (C.length + D.length + 2 : Nat), .slice A (netP C D tm).length cap]) ∧ Reads L (fun w => Flo.ArcsAt w A (netP C D tm)) ∧ SH w0 [] w' L := by
 have e1 : netOf cs bs rs = netP C D tm := by subst hC hD htm; simp [netOf, netP]
 have e2 : (cs.length : Int) + bs.length + 1 + 1 = (C.length + D.length + 2 : Nat) := by subst hC hD; simp; omega
 have h := boundNetwork Ac Ab At cs bs rs kc kb kt cp hv wt w0 hT hK
 rw [e1, e2] at h
 exact h
theorem sv2 {a b c d e f g : Blk} {Lu Lv : List Blk} : (a :: (([b, c, d, e, f, g] : List Blk) ++ (Lu ++ Lv))).Perm (([a, b, c, d, e, f, g] ++ Lu) ++ Lv) := perm_by fun f => by simp <;> omega
/-- the prices of those that collect, as potentials give them -/
def usL (pots : List Int) (k : Nat) : List Int := (List.range k).map fun i => pots.getD (1 + i) 0
theorem usL_succ (pots : List Int) (k : Nat) : usL pots (k + 1) = usL pots k ++ [pots.getD (1 + k) 0] := by simp [usL, List.range_succ]
theorem usL_len (pots : List Int) (k : Nat) : (usL pots k).length = k := by simp [usL]
theorem usL_get (pots : List Int) {k j : Nat} (h : j < k) : (usL pots k).getD j 0 = pots.getD (1 + j) 0 := by simp [usL, h]
set_option maxRecDepth 20000 in
set_option maxHeartbeats 4000000 in
theorem boundSolve {C D : List Int} {tm : List (List Int)} (Ac Ab At : Option Addr) (cs bs : List Need) (rs : List (SlA Int)) (kc kb kt : Nat) (cp : Int) (w0 : World) (hT : TaskAt w0 Ac Ab At cs bs rs) (hK : TaskOk cs bs rs) (hC : C = cs.map (·.move)) (hD : D = bs.map fun x => -x.move) (htm : tm = rs.map (·.l)) (hX : Flo.Trans C D tm) (hcp : 0 ≤ cp ∧ cp ≤ 32) :
  Calls Try.prog 21 #[.agg (tskC Ac Ab At cs.length bs.length rs.length kc kb kt cp C.sum D.sum).toArray] w0 fun e w' =>
   (emptyB cp C.sum D.sum = true → e = .returned (.tuple #[.agg zeroB.toArray, I 10]) ∧ Below w0.heap.size w0 w') ∧
   (emptyB cp C.sum D.sum = false → ¬ Flo.Hall C D tm → e = .returned (.tuple #[.agg zeroB.toArray, I 15]) ∧ Below w0.heap.size w0 w') ∧
   (emptyB cp C.sum D.sum = false → Flo.Hall C D tm → ∃ (us vs : List Int) (T : Int) (AU AV : Option Addr) (cu cv : Nat) (L : List Blk), Flo.Solved C D tm us vs T ∧ e = .returned (.tuple #[.agg (bndL (divI T cp) D.sum AU us.length cu AV vs.length cv).toArray, I 0]) ∧ Reads L (fun w => IntsAt w AU us ∧ IntsAt w AV vs) ∧ SH w0 [] w' L) := by
 have H := SH.refl w0
 have hcl := hK.cl
 have hbl := hK.bl
 have hrl := hK.rl
 have hCl : C.length = cs.length := by rw [hC]; simp
 have hDl : D.length = bs.length := by rw [hD]; simp
 have htl : tm.length = rs.length := by rw [htm]; simp
 have hds := hX.dsum
 by_cases hHall : Flo.Hall C D tm
 ·have hHall2 := hHall
  refine Calls.ofWPc Try.func21 rfl Try.results21 Try.ntmps21 rfl <| Y.qr <| Y.bx (cA rfl) H ?_
  clear H; intro g1 w H
  refine Y.al H rfl rfl ?_
  clear H; intro g2 w H
  refine Y.v (Ev.asI rfl) <| Y.z <| Y.q <| Y.qr <| Y.v (Y.f rfl rfl) <| Y.v (Y.l H 1 rfl rfl rfl) <| Y.v (Ev.eql rfl rfl) <| Y.v (Ev.mvB rfl) <| Y.g rfl rfl (fun hg => Y.f rfl rfl) <| Y.g rfl rfl (fun hg => Ev.load1 (agg_run rfl) (gvE hg rfl) (H.ldL 1 rfl _ rfl)) <| Y.g rfl rfl (fun hg => Y.f rfl rfl) <| Y.g rfl rfl (fun hg => Ev.load1 (agg_run rfl) (gvE hg rfl) (H.ldL 1 rfl _ rfl)) <| Y.g rfl rfl (fun hg => Ev.gtr (gvE hg rfl) (gvE hg rfl)) <| Y.v (Ev.pickOr rfl rfl rfl) <| Y.z ?_
  refine WP.cond rfl (fun hc1 => ?_) (fun hc1 => ?_)
  ·refine Y.qr <| Y.v (Ev.build (bld_33_ (e := fun _ => .int .i64 0))) <| Y.st 0 H rfl (cA rfl) rfl ?_
   clear H; intro w H; try simp only [List.set_cons_zero, List.set_cons_succ, putL, Nat.zero_add] at H
   refine Y.v (Ev.asI rfl) <| Y.z ?_
   refine WP.ret ⟨[_, _], ⟨(by exact resCellA 0 H rfl (agg_run rfl) (size_run rfl) (by rfl) rfl), rfl, trivial⟩, ?_⟩
   exact ⟨fun _ => ⟨rfl, H.below⟩, fun h => absurd (show emptyB cp C.sum D.sum = true from hc1) (by rw [h]; simp), fun h => absurd (show emptyB cp C.sum D.sum = true from hc1) (by rw [h]; simp)⟩
  have hem : emptyB cp C.sum D.sum = false := hc1
  have hcp1 : 1 ≤ cp := by simp [emptyB] at hem; omega
  refine Y.k <| Y.qr <| Y.v (Y.o H 1 rfl rfl) <| OPS.call (d := some 27) rfl rfl rfl (EvC.func (fun_run rfl)) (boundNetwork2 (C := C) (D := D) (tm := tm) Ac Ab At cs bs rs kc kb kt cp C.sum D.sum w (hT.below H.below) hK hC hD htm) ?_
  rintro _ w ⟨A, cap, LA, rfl, hA, Hc⟩
  refine ⟨_, rfl, ?_⟩
  replace H := SH.call (Lv := []) (by rw [List.append_nil]; exact H) Hc
  clear Hc
  refine Y.al H rfl rfl ?_
  clear H; intro g4 w H
  refine Y.st 0 H rfl (cA rfl) rfl ?_
  clear H; intro w H; try simp only [List.set_cons_zero, List.set_cons_succ, putL, Nat.zero_add] at H
  refine Y.z <| Y.qr <| Y.v (Y.o H 0 rfl rfl) <| Y.v (Y.f rfl rfl) <| Y.v (Y.l H 0 rfl rfl rfl) <| Y.v (Y.s rfl rfl) <| Y.v (Y.f rfl rfl) <| Y.v (Y.l H 2 rfl rfl rfl) ?_
  have hcheap := Calls.mono (netCheap hX A cap w (hA.at H (List.sublist_append_right [_, _, _] _))) fun _ _ h => h.2 hHall
  refine OPS.call (d := some 35) rfl rfl rfl (EvC.func (fun_run rfl)) (hcheap) ?_
  rintro _ w ⟨go, gp, on, pots, rfl, hN, hf, ho, hpl, hp0, hpb, Hc⟩
  refine ⟨_, rfl, ?_⟩
  replace H := SH.call (Lv := []) (by rw [List.append_nil]; exact H) Hc
  clear Hc hcheap
  refine Y.v (Ev.mvT rfl) <| Y.v (Ev.extract rfl rfl) <| Y.v (Ev.extract rfl rfl) <| Y.al H rfl rfl ?_
  clear H; intro g5 w H
  refine Y.st 0 H rfl (cA rfl) rfl ?_
  clear H; intro w H; try simp only [List.set_cons_zero, List.set_cons_succ, putL, Nat.zero_add] at H
  refine Y.v (Ev.asI rfl) <| Y.z <| Y.q <| Y.qr <| Y.v (Y.m rfl) <| Y.v (Ev.neq rfl rfl) <| Y.z ?_
  refine WP.cond rfl (fun hc5 => ?_) (fun hc5 => ?_)
  ·refine Y.qr <| Y.v (Ev.build (bld_33_ (e := fun _ => .int .i64 0))) <| Y.st 2 H rfl (cA rfl) rfl ?_
   clear H; intro w H; try simp only [List.set_cons_zero, List.set_cons_succ, putL, Nat.zero_add] at H
   refine Y.v (Ev.asI rfl) <| Y.z ?_
   refine WP.ret ⟨[_, _], ⟨(by exact resCellA 2 H rfl (agg_run rfl) (size_run rfl) (by rfl) rfl), rfl, trivial⟩, ?_⟩
   exact absurd hc5 (by decide)
  have hp00 : pots.getD 0 0 = 0 := hp0
  have hpg : ∀ i : Nat, 0 ≤ pots.getD i 0 ∧ pots.getD i 0 ≤ 1000000000 := fun i => by have := hpb (i : Int); simpa [Flo.potF] using this
  obtain ⟨T, hTe⟩ : ∃ T, T = Flo.costOf (netP C D tm) on := ⟨_, rfl⟩
  have hTb : 0 ≤ T ∧ T ≤ 4000000000000 := by
   have h1 := Flo.costOf_bd hN hf.v (netP C D tm).length (Nat.le_refl _)
   rw [List.take_length, List.take_of_length_le (by rw [hf.v.len]; omega)] at h1
   have := netP_len hX
   omega
  rw [← hTe] at H ⊢
  replace H : SH w0 [] w [⟨g5, 71, [I D.sum, I T, .slice (some ⟨go, 0, none⟩) on.length on.length, .slice (some ⟨gp, 0, none⟩) pots.length pots.length]⟩, ⟨g2, 33, zeroB⟩, ⟨g1, 60, tskC Ac Ab At cs.length bs.length rs.length kc kb kt cp C.sum D.sum⟩, ⟨go, 3, on.map I⟩, ⟨gp, 3, pots.map I⟩] := by
   have h := (H.reidxT (L := [_, _, _, _]) (L' := [⟨g5, 71, [I D.sum, I T, .slice (some ⟨go, 0, none⟩) on.length on.length, .slice (some ⟨gp, 0, none⟩) pots.length pots.length]⟩, ⟨g2, 33, zeroB⟩, ⟨g1, 60, tskC Ac Ab At cs.length bs.length rs.length kc kb kt cp C.sum D.sum⟩]) (Lo := LA ++ [⟨go, 3, on.map I⟩, ⟨gp, 3, pots.map I⟩]) [0, 2, 3] (by decide) rfl)
   exact h.drop (List.Sublist.append (List.Sublist.refl [_, _, _]) (List.sublist_append_right _ _))
  refine Y.k <| Y.q ?_
  refine WP.rheldC [7, 41, 42, 43, 44, 45, 46, 47, 48] (fun u w' => ∃ g7 : Nat, u 7 = .pointer (some ⟨g7, 0, none⟩) ∧ SH w0 [] w' [⟨g7, 33, bndL (divI T cp) D.sum none 0 0 none 0 0⟩, ⟨g5, 71, [I D.sum, I T, .slice (some ⟨go, 0, none⟩) on.length on.length, .slice (some ⟨gp, 0, none⟩) pots.length pots.length]⟩, ⟨g2, 33, zeroB⟩, ⟨g1, 60, tskC Ac Ab At cs.length bs.length rs.length kc kb kt cp C.sum D.sum⟩, ⟨go, 3, on.map I⟩, ⟨gp, 3, pots.map I⟩]) mixed H ?_ ?_
  ·clear H; intro w hbw7 H
   refine Y.t 0 H rfl rfl (fun w H => Y.f rfl rfl) <| Y.t 1 H rfl rfl (fun w H => Y.l H 2 rfl rfl rfl) <| Y.t 2 H rfl rfl (fun w H => Y.f rfl rfl) <| Y.t 3 H rfl rfl (fun w H => Y.l H 0 rfl rfl rfl) <| Y.t 4 H rfl rfl (fun w H => Y.f rfl rfl) <| Y.t 5 H rfl rfl (fun w H => Y.l H 2 rfl rfl rfl) ?_
   refine Y.A [6, 8] rfl ⟨⟨_, rfl, ?_⟩, ⟨_, rfl, ?_⟩, trivial⟩
   ·refine OPS.call (d := some 47) rfl rfl rfl (EvC.func (fun_run rfl)) (boundUp T cp _ (by omega) (by omega)) ?_
    rintro _ w ⟨rfl, hb⟩
    refine ⟨_, rfl, ?_⟩
    replace H := H.toBelow hb; clear hb
    refine Y.z <| ⟨(H), ?_⟩
    refine Y.t 7 H rfl rfl (fun w H => Ev.build (bld_33_1_0 rfl rfl)) ?_
    refine Y.A [8] rfl ⟨⟨_, rfl, ?_⟩, trivial⟩
    refine Y.al H rfl rfl ?_
    clear H; intro g7 w H
    refine Y.z <| ⟨(H.drop (List.sublist_cons_self _ _)), ?_⟩
    refine Y.A [9] rfl ⟨⟨_, rfl, ?_⟩, trivial⟩
    refine Y.st 0 H rfl (cA rfl) rfl ?_
    clear H; intro w H; try simp only [List.set_cons_zero, List.set_cons_succ, putL, Nat.zero_add] at H
    refine Y.z <| ⟨(H.drop (List.sublist_cons_self _ _)), ?_⟩
    refine OPH.done (by kernel_rfl) ?_
    exact ⟨(by repeat (first | exact Agree.refl _ _ | exact Agree.mix _ _ _ | refine Agree.upd rfl ?_ | refine Agree.mix2 rfl ?_)), g7, rfl, H⟩
   ·refine Y.al H rfl rfl ?_
    clear H; intro g7 w H
    refine Y.z <| ⟨(H.drop (List.sublist_cons_self _ _)), ?_⟩
    refine Y.A [6] rfl ⟨⟨_, rfl, ?_⟩, trivial⟩
    refine OPS.call (d := some 47) rfl rfl rfl (EvC.func (fun_run rfl)) (boundUp T cp _ (by omega) (by omega)) ?_
    rintro _ w ⟨rfl, hb⟩
    refine ⟨_, rfl, ?_⟩
    replace H := H.toBelow hb; clear hb
    refine Y.z <| ⟨(H.drop (List.sublist_cons_self _ _)), ?_⟩
    refine Y.t 7 (H.drop (List.sublist_cons_self _ _)) rfl rfl (fun w H => Ev.build (bld_33_1_0 rfl rfl)) ?_
    refine Y.A [9] rfl ⟨⟨_, rfl, ?_⟩, trivial⟩
    refine Y.st 0 H rfl (cA rfl) rfl ?_
    clear H; intro w H; try simp only [List.set_cons_zero, List.set_cons_succ, putL, Nat.zero_add] at H
    refine Y.z <| ⟨(H.drop (List.sublist_cons_self _ _)), ?_⟩
    refine OPH.done (by kernel_rfl) ?_
    exact ⟨(by repeat (first | exact Agree.refl _ _ | exact Agree.mix _ _ _ | refine Agree.upd rfl ?_ | refine Agree.mix2 rfl ?_)), g7, rfl, H⟩
  clear H
  rintro u w ⟨g7, h7, H⟩
  refine WP.know (t := 7) h7 ?_
  have hp : ∀ w, SH w0 [] w [⟨g5, 71, [I D.sum, I T, .slice (some ⟨go, 0, none⟩) on.length on.length, .slice (some ⟨gp, 0, none⟩) pots.length pots.length]⟩, ⟨g2, 33, zeroB⟩, ⟨g1, 60, tskC Ac Ab At cs.length bs.length rs.length kc kb kt cp C.sum D.sum⟩, ⟨go, 3, on.map I⟩, ⟨gp, 3, pots.map I⟩] → ∀ i, i < pots.length → w.cell? ⟨gp, 0 + i, none⟩ = some (I (pots.getD i 0)) := fun w H i hi => by rw [Nat.zero_add]; exact intCell H 4 rfl i hi
  refine Y.q <| Y.qr <| Y.v (Y.f rfl rfl) <| Y.v (Y.l H 3 rfl rfl rfl) <| Y.v (Y.n rfl) <| Y.v (Y.m rfl) <| Y.z <| WP.block <| WP.loop [8, 52, 53, 54, 55, 56, 57, 58, 59, 60, 61, 62, 63, 64, 65, 66, 67, 68, 69, 70, 71, 72] (fun k e w' => ∃ (j : Nat) (AU : Option Addr) (cu : Nat) (Lu : List Blk), j + k = cs.length ∧ e 52 = I j ∧ OwnS AU cu j ((usL pots j).map I) 3 1 Lu ∧ SH w0 [] w' ([⟨g7, 33, bndL (divI T cp) D.sum AU j cu none 0 0⟩, ⟨g5, 71, [I D.sum, I T, .slice (some ⟨go, 0, none⟩) on.length on.length, .slice (some ⟨gp, 0, none⟩) pots.length pots.length]⟩, ⟨g2, 33, zeroB⟩, ⟨g1, 60, tskC Ac Ab At cs.length bs.length rs.length kc kb kt cp C.sum D.sum⟩, ⟨go, 3, on.map I⟩, ⟨gp, 3, pots.map I⟩] ++ Lu)) (cs.length) (⟨0, none, 0, [], by omega, rfl, OwnS.nil, by rw [List.append_nil]; exact H⟩) ?_
  clear H
  rintro k u w ⟨j, AU, cu, Lu, hk, h52, hOu, H⟩
  refine WP.know (t := 52) h52 <| Y.qr <| Y.v (Ev.lss rfl rfl) <| Y.z <| Y.q ?_
  refine WP.cond rfl (fun hc9 => ?_) (fun hc9 => ?_)
  ·have hlt : j < cs.length := by simpa using hc9
   have hb1 := hpg (1 + j)
   refine Y.k <| Y.q <| WP.block <| Y.qr <| Y.v (Y.m rfl) <| Y.v (Ev.asI rfl) <| Y.z ?_
   have E := H
   replace H := H.drop (L' := [⟨g5, 71, [I D.sum, I T, .slice (some ⟨go, 0, none⟩) on.length on.length, .slice (some ⟨gp, 0, none⟩) pots.length pots.length]⟩, ⟨g2, 33, zeroB⟩, ⟨g1, 60, tskC Ac Ab At cs.length bs.length rs.length kc kb kt cp C.sum D.sum⟩, ⟨go, 3, on.map I⟩, ⟨gp, 3, pots.map I⟩]) ((List.sublist_cons_self _ _).trans (List.sublist_append_left _ _))
   refine WP.rheldC [55, 56, 57, 58, 59, 60, 61, 62, 63, 64, 65, 66, 67, 68, 69, 70, 71] (fun _ w' => ∃ (AU : Option Addr) (cu : Nat) (Lu : List Blk), OwnS AU cu (j + 1) ((usL pots (j + 1)).map I) 3 1 Lu ∧ SH w0 [] w' ([⟨g7, 33, bndL (divI T cp) D.sum AU (j + 1) cu none 0 0⟩, ⟨g5, 71, [I D.sum, I T, .slice (some ⟨go, 0, none⟩) on.length on.length, .slice (some ⟨gp, 0, none⟩) pots.length pots.length]⟩, ⟨g2, 33, zeroB⟩, ⟨g1, 60, tskC Ac Ab At cs.length bs.length rs.length kc kb kt cp C.sum D.sum⟩, ⟨go, 3, on.map I⟩, ⟨gp, 3, pots.map I⟩] ++ Lu)) mixed H ?_ ?_
   ·clear H; intro w hbw11 H
    refine Y.t 0 H rfl rfl (fun w H => Y.f rfl rfl) <| Y.t 2 H rfl rfl (fun w H => Y.f rfl rfl) <| Y.t 3 H rfl rfl (fun w H => Y.l H 0 rfl rfl rfl) <| Y.t 4 H rfl rfl (fun w H => Y.m rfl) <| Y.t 5 H rfl rfl (fun w H => Y.p rfl rfl) <| Y.t 6 H rfl rfl (fun w H => Ev.indexAddr1 (j := 1 + j) (el_run rfl) (size_run rfl) rfl rfl (by omega) (by omega)) <| Y.t 7 H rfl rfl (fun w H => Y.c (hp w H (1 + j) (by omega)) rfl) <| Y.t 8 H rfl rfl (fun w H => Y.f rfl rfl) <| Y.t 9 H rfl rfl (fun w H => Y.l H 0 rfl rfl rfl) <| Y.t 10 H rfl rfl (fun w H => Ev.indexAddr1 (j := 0) (el_run rfl) (size_run rfl) rfl rfl rfl (by omega)) <| Y.t 11 H rfl rfl (fun w H => Y.c (hp w H 0 (by omega)) rfl) <| Y.t 12 H rfl rfl (fun w H => Y.s rfl rfl) <| Y.t 13 H rfl rfl (fun w H => Ev.max rfl rfl) ?_
    refine Y.A [1, 14] rfl ⟨⟨_, rfl, ?_⟩, ⟨_, rfl, ?_⟩, trivial⟩
    ·try replace E := E.toBelow hbw11
     refine Y.v (Y.l E 0 rfl rfl rfl) <| Y.z <| ⟨(H), ?_⟩
     refine Y.A [14] rfl ⟨⟨_, rfl, ?_⟩, trivial⟩
     try replace E := E.toBelow hbw11
     refine OPS.buildSlice rfl rfl rfl rfl (bsl_31_1_0 rfl) E ?_
     clear H E; intro g69 w E
     have H := E.drop (L' := [⟨g5, 71, [I D.sum, I T, .slice (some ⟨go, 0, none⟩) on.length on.length, .slice (some ⟨gp, 0, none⟩) pots.length pots.length]⟩, ⟨g2, 33, zeroB⟩, ⟨g1, 60, tskC Ac Ab At cs.length bs.length rs.length kc kb kt cp C.sum D.sum⟩, ⟨go, 3, on.map I⟩, ⟨gp, 3, pots.map I⟩]) (List.Sublist.cons _ ((List.sublist_cons_self _ _).trans (List.sublist_append_left _ _)))
     refine Y.z <| ⟨(H), ?_⟩
     refine Y.A [15] rfl ⟨⟨_, rfl, ?_⟩, trivial⟩
     have hmax : (if 0 < pots.getD (1 + j) 0 - pots.getD 0 0 then pots.getD (1 + j) 0 - pots.getD 0 0 else 0) = pots.getD (1 + j) 0 := by rw [hp00]; split <;> omega
     rw [hmax] at E
     refine OPS.append (m := 1) (news := [I (pots.getD (1 + j) 0)]) (R := [⟨g69, 3, [I (pots.getD (1 + j) 0)]⟩, ⟨g7, 33, bndL (divI T cp) D.sum AU j cu none 0 0⟩, ⟨g5, 71, [I D.sum, I T, .slice (some ⟨go, 0, none⟩) on.length on.length, .slice (some ⟨gp, 0, none⟩) pots.length pots.length]⟩, ⟨g2, 33, zeroB⟩, ⟨g1, 60, tskC Ac Ab At cs.length bs.length rs.length kc kb kt cp C.sum D.sum⟩, ⟨go, 3, on.map I⟩, ⟨gp, 3, pots.map I⟩]) rfl rfl rfl rfl rfl (sl_run rfl) rfl rfl hOu rfl (src_own E 0 rfl) rfl (by omega) (by unfold maxLen; omega) E (List.Perm.refl _) ?_
     clear H E; intro AU2 cu2 Lu2 w hOu E
     rw [show (usL pots j).map I ++ [I (pots.getD (1 + j) 0)] = (usL pots (j + 1)).map I by rw [usL_succ, List.map_append]; rfl] at hOu
     have H := E.drop (L' := [⟨g5, 71, [I D.sum, I T, .slice (some ⟨go, 0, none⟩) on.length on.length, .slice (some ⟨gp, 0, none⟩) pots.length pots.length]⟩, ⟨g2, 33, zeroB⟩, ⟨g1, 60, tskC Ac Ab At cs.length bs.length rs.length kc kb kt cp C.sum D.sum⟩, ⟨go, 3, on.map I⟩, ⟨gp, 3, pots.map I⟩]) (List.Sublist.cons _ ((List.sublist_cons_self _ _).trans (List.sublist_append_left _ _)))
     refine Y.z <| ⟨(H), ?_⟩
     refine Y.t 16 H rfl rfl (fun w H => Y.f rfl rfl) ?_
     refine Y.A [17] rfl ⟨⟨_, rfl, ?_⟩, trivial⟩
     unfold bndL at E
     refine Y.st 1 E rfl (cS rfl) rfl ?_
     clear H E; intro w E
     simp only [List.set_cons_zero, List.set_cons_succ, List.cons_append, List.nil_append, putL] at E
     have H := E.drop (L' := [⟨g5, 71, [I D.sum, I T, .slice (some ⟨go, 0, none⟩) on.length on.length, .slice (some ⟨gp, 0, none⟩) pots.length pots.length]⟩, ⟨g2, 33, zeroB⟩, ⟨g1, 60, tskC Ac Ab At cs.length bs.length rs.length kc kb kt cp C.sum D.sum⟩, ⟨go, 3, on.map I⟩, ⟨gp, 3, pots.map I⟩]) (List.Sublist.cons _ (List.Sublist.cons _ (List.sublist_append_left [_, _, _, _, _] _)))
     refine Y.z <| ⟨(H), ?_⟩
     refine OPH.done (by kernel_rfl) ?_
     exact ⟨(by repeat (first | exact Agree.refl _ _ | exact Agree.mix _ _ _ | refine Agree.upd rfl ?_ | refine Agree.mix2 rfl ?_)), _, _, _, hOu, E.drop (List.sublist_cons_self _ _)⟩
    ·try replace E := E.toBelow hbw11
     refine OPS.buildSlice rfl rfl rfl rfl (bsl_31_1_0 rfl) E ?_
     clear H E; intro g69 w E
     have H := E.drop (L' := [⟨g5, 71, [I D.sum, I T, .slice (some ⟨go, 0, none⟩) on.length on.length, .slice (some ⟨gp, 0, none⟩) pots.length pots.length]⟩, ⟨g2, 33, zeroB⟩, ⟨g1, 60, tskC Ac Ab At cs.length bs.length rs.length kc kb kt cp C.sum D.sum⟩, ⟨go, 3, on.map I⟩, ⟨gp, 3, pots.map I⟩]) (List.Sublist.cons _ ((List.sublist_cons_self _ _).trans (List.sublist_append_left _ _)))
     refine Y.z <| ⟨(H), ?_⟩
     refine Y.A [1] rfl ⟨⟨_, rfl, ?_⟩, trivial⟩
     try replace E := E.toBelow hbw11
     refine Y.v (Y.l E 1 rfl rfl rfl) <| Y.z <| ⟨(H), ?_⟩
     refine Y.A [15] rfl ⟨⟨_, rfl, ?_⟩, trivial⟩
     have hmax : (if 0 < pots.getD (1 + j) 0 - pots.getD 0 0 then pots.getD (1 + j) 0 - pots.getD 0 0 else 0) = pots.getD (1 + j) 0 := by rw [hp00]; split <;> omega
     rw [hmax] at E
     refine OPS.append (m := 1) (news := [I (pots.getD (1 + j) 0)]) (R := [⟨g69, 3, [I (pots.getD (1 + j) 0)]⟩, ⟨g7, 33, bndL (divI T cp) D.sum AU j cu none 0 0⟩, ⟨g5, 71, [I D.sum, I T, .slice (some ⟨go, 0, none⟩) on.length on.length, .slice (some ⟨gp, 0, none⟩) pots.length pots.length]⟩, ⟨g2, 33, zeroB⟩, ⟨g1, 60, tskC Ac Ab At cs.length bs.length rs.length kc kb kt cp C.sum D.sum⟩, ⟨go, 3, on.map I⟩, ⟨gp, 3, pots.map I⟩]) rfl rfl rfl rfl rfl (sl_run rfl) rfl rfl hOu rfl (src_own E 0 rfl) rfl (by omega) (by unfold maxLen; omega) E (List.Perm.refl _) ?_
     clear H E; intro AU2 cu2 Lu2 w hOu E
     rw [show (usL pots j).map I ++ [I (pots.getD (1 + j) 0)] = (usL pots (j + 1)).map I by rw [usL_succ, List.map_append]; rfl] at hOu
     have H := E.drop (L' := [⟨g5, 71, [I D.sum, I T, .slice (some ⟨go, 0, none⟩) on.length on.length, .slice (some ⟨gp, 0, none⟩) pots.length pots.length]⟩, ⟨g2, 33, zeroB⟩, ⟨g1, 60, tskC Ac Ab At cs.length bs.length rs.length kc kb kt cp C.sum D.sum⟩, ⟨go, 3, on.map I⟩, ⟨gp, 3, pots.map I⟩]) (List.Sublist.cons _ ((List.sublist_cons_self _ _).trans (List.sublist_append_left _ _)))
     refine Y.z <| ⟨(H), ?_⟩
     refine Y.t 16 H rfl rfl (fun w H => Y.f rfl rfl) ?_
     refine Y.A [17] rfl ⟨⟨_, rfl, ?_⟩, trivial⟩
     unfold bndL at E
     refine Y.st 1 E rfl (cS rfl) rfl ?_
     clear H E; intro w E
     simp only [List.set_cons_zero, List.set_cons_succ, List.cons_append, List.nil_append, putL] at E
     have H := E.drop (L' := [⟨g5, 71, [I D.sum, I T, .slice (some ⟨go, 0, none⟩) on.length on.length, .slice (some ⟨gp, 0, none⟩) pots.length pots.length]⟩, ⟨g2, 33, zeroB⟩, ⟨g1, 60, tskC Ac Ab At cs.length bs.length rs.length kc kb kt cp C.sum D.sum⟩, ⟨go, 3, on.map I⟩, ⟨gp, 3, pots.map I⟩]) (List.Sublist.cons _ (List.Sublist.cons _ (List.sublist_append_left [_, _, _, _, _] _)))
     refine Y.z <| ⟨(H), ?_⟩
     refine OPH.done (by kernel_rfl) ?_
     exact ⟨(by repeat (first | exact Agree.refl _ _ | exact Agree.mix _ _ _ | refine Agree.upd rfl ?_ | refine Agree.mix2 rfl ?_)), _, _, _, hOu, E.drop (List.sublist_cons_self _ _)⟩
   clear H
   rintro u w ⟨AU, cu, Lu, hOu, H⟩
   refine Y.r <| Y.v (Y.p rfl rfl) <| Y.v (Y.m rfl) <| Y.z ?_
   exact ⟨(by repeat (first | exact Agree.refl _ _ | exact Agree.mix _ _ _ | refine Agree.upd rfl ?_ | refine Agree.mix2 rfl ?_)), k - 1, by omega, j + 1, AU, cu, Lu, by omega, rfl, hOu, H⟩
  have hj : j = cs.length := by simp at hc9; omega
  subst hj
  obtain ⟨us, hus⟩ : ∃ us, us = usL pots cs.length := ⟨_, rfl⟩
  have husl : us.length = cs.length := by rw [hus]; exact usL_len _ _
  have husg : ∀ j, j < cs.length → us.getD j 0 = pots.getD (1 + j) 0 := fun j hj => by rw [hus]; exact usL_get _ hj
  have husb : ∀ j, 0 ≤ us.getD j 0 ∧ us.getD j 0 ≤ 1000000000 := fun j => by
   by_cases hj : j < cs.length
   ·rw [husg j hj]; exact hpg _
   ·simp [show ¬ j < us.length by omega]
  rw [← hus] at hOu
  have hrU : ∀ w R, SH w0 [] w (R ++ Lu) → IntsAt w AU us := fun w R H => (hOu.ones H).1
  refine WP.exit <| XB.hit <| Y.q <| Y.qr <| Y.v (Y.f rfl rfl) <| Y.v (Y.l H 3 rfl rfl rfl) <| Y.v (Y.n rfl) <| Y.v (Y.m rfl) <| Y.z <| WP.block <| WP.loop [9, 10, 11, 12, 13, 14, 76, 77, 78, 79, 80, 81, 82, 83, 84, 85, 86, 87, 88, 89, 90, 91, 92, 93, 94, 95, 96, 97, 98, 99, 100, 101, 102, 103, 104, 105, 106, 107, 108, 109, 110, 111, 112, 113, 114, 115, 116, 117, 118] (fun k e w' => ∃ (q : Nat) (AV : Option Addr) (cv : Nat) (Lv : List Blk) (vs : List Int), q + k = bs.length ∧ e 76 = I q ∧ vs.length = q ∧ (∀ i, i < q → ∃ found, Flo.VMin tm (fun j => us.getD j 0) i cs.length (vs.getD i 0) found) ∧ OwnS AV cv q (vs.map I) 3 1 Lv ∧ SH w0 [] w' ([⟨g7, 33, bndL (divI T cp) D.sum AU cs.length cu AV q cv⟩, ⟨g5, 71, [I D.sum, I T, .slice (some ⟨go, 0, none⟩) on.length on.length, .slice (some ⟨gp, 0, none⟩) pots.length pots.length]⟩, ⟨g2, 33, zeroB⟩, ⟨g1, 60, tskC Ac Ab At cs.length bs.length rs.length kc kb kt cp C.sum D.sum⟩, ⟨go, 3, on.map I⟩, ⟨gp, 3, pots.map I⟩] ++ (Lu ++ Lv))) (bs.length) (⟨0, none, 0, [], [], by omega, rfl, rfl, (fun i h => absurd h (by omega)), OwnS.nil, by rw [List.append_nil]; exact H⟩) ?_
  clear H
  rintro k u w ⟨q, AV, cv, Lv, vs, hk, h76, hvl, hvm, hOv, H⟩
  refine WP.know (t := 76) h76 <| Y.qr <| Y.v (Ev.lss rfl rfl) <| Y.z <| Y.q ?_
  refine WP.cond rfl (fun hc14 => ?_) (fun hc14 => ?_)
  ·have hltq : q < bs.length := by simpa using hc14
   refine Y.k <| Y.q <| WP.block <| Y.qr <| Y.v (Y.m rfl) <| Y.v (Ev.asI rfl) <| Y.z <| Y.qr <| Y.v (Ev.asI rfl) <| Y.v (Ev.asB rfl) <| Y.z <| Y.q <| Y.q ?_
   unfold bndL at H
   refine Y.r <| Y.v (Y.f rfl rfl) <| Y.v (Y.l H 0 rfl rfl rfl) <| Y.v (Y.n rfl) <| Y.v (Y.m rfl) <| Y.z <| WP.block <| WP.loop [10, 11, 12, 13, 14, 82, 83, 84, 85, 86, 87, 88, 89, 90, 91, 92, 93, 94, 95, 96, 97, 98, 99, 100, 101, 102, 103, 104, 105, 106, 107, 108, 109, 110, 111] (fun k e w' => ∃ (i : Nat) (v : Int) (found : Bool), i + k = cs.length ∧ e 82 = I i ∧ e 10 = I v ∧ e 11 = Bo found ∧ Flo.VMin tm (fun j => us.getD j 0) q i v found ∧ (0 ≤ v ∧ v ≤ 2000000000) ∧ SH w0 [] w' ([⟨g7, 33, bndL (divI T cp) D.sum AU cs.length cu AV q cv⟩, ⟨g5, 71, [I D.sum, I T, .slice (some ⟨go, 0, none⟩) on.length on.length, .slice (some ⟨gp, 0, none⟩) pots.length pots.length]⟩, ⟨g2, 33, zeroB⟩, ⟨g1, 60, tskC Ac Ab At cs.length bs.length rs.length kc kb kt cp C.sum D.sum⟩, ⟨go, 3, on.map I⟩, ⟨gp, 3, pots.map I⟩] ++ (Lu ++ Lv))) (cs.length) (⟨0, 0, false, by omega, rfl, rfl, rfl, Flo.VMin.zero, by omega, H⟩) ?_
   clear H
   rintro k2 u2 w ⟨i, v, found, hk2, h82, h10, h11, hVM, hvb, H⟩
   refine WP.know (t := 82) h82 (WP.know (t := 10) h10 (WP.know (t := 11) h11 ?_))
   refine Y.qr <| Y.v (Ev.lss rfl rfl) <| Y.z <| Y.q ?_
   refine WP.cond rfl (fun hc18 => ?_) (fun hc18 => ?_)
   ·have hlti : i < cs.length := by simpa using hc18
    obtain ⟨bu, ou, rfl, hxu⟩ := hrU w _ (H.drop (List.Sublist.append (List.Sublist.refl _) (List.sublist_append_left Lu Lv))) i (by omega)
    have hug : us[i]'(by omega) = us.getD i 0 := by simp [show i < us.length by omega]
    rw [hug] at hxu
    have hub := husb i
    obtain ⟨r, hre⟩ : ∃ r, r = rs[i]'(by omega) := ⟨_, rfl⟩
    have hrm : r ∈ rs := by rw [hre]; exact List.getElem_mem _
    have hrI := hT.r r hrm
    have hrb := hK.row r hrm
    obtain ⟨bt, ot, rfl, hxt⟩ := hT.t i (by omega)
    rw [← hre] at hxt
    have hxe : Flo.tmAt tm i q = some (r.l[q]'(by omega)) := by
     have e1 : (rs.map (·.l))[i]? = some r.l := by simp [show i < rs.length by omega, ← hre]
     rw [← htm] at e1
     unfold Flo.tmAt
     rw [e1]
     simp [show q < r.l.length by omega]
    clear hre hrm
    obtain ⟨rA, rc, rl⟩ := r
    simp only [slV] at hxt hrI hrb hxe
    obtain ⟨br, orr, rfl, hxr⟩ := hrI q (by omega)
    obtain ⟨x, hx⟩ : ∃ x, x = rl[q]'(by omega) := ⟨_, rfl⟩
    rw [← hx] at hxr hxe
    have hxb := hX.tb i q x hxe
    have hstep := hVM.step hxe
    unfold bndL at H
    refine Y.k <| Y.q <| WP.block <| Y.qr <| Y.v (Y.m rfl) <| Y.v (Y.x rfl rfl rfl rfl) <| Y.v (Y.c (by assumption) rfl) ?_
    refine Y.v (Ev.asI rfl) <| Y.v (Ev.asI rfl) <| Y.z <| Y.qr <| Y.v (Y.f rfl rfl) <| Y.v (Y.l H 3 rfl rfl rfl) <| Y.v (Y.m rfl) <| Y.v (Y.x rfl rfl rfl rfl) <| Y.v (Y.c (H.ld0 (by assumption)) rfl) ?_
    refine Y.v (Y.m rfl) <| Y.v (Y.x rfl rfl rfl rfl) <| Y.v (Y.c (H.ld0 (by assumption)) rfl) ?_
    refine Y.v (Ev.asI rfl) <| Y.z <| Y.qr <| Y.v (Y.m rfl) <| Y.v (Ev.geq rfl rfl) <| Y.v (Ev.mvB rfl) <| Y.g rfl rfl (fun hg => Ev.mvB rfl) <| Y.g rfl rfl (fun hg => Ev.not (gvE hg rfl)) <| Y.g rfl rfl (fun hg => Ev.mvB (gvE hg rfl)) <| OPS.gvalN rfl rfl (GB.g rfl) rfl rfl (fun hg => Ev.mvI rfl) <| OPS.gvalN rfl rfl (GB.g rfl) rfl rfl (fun hg => Ev.mvI rfl) <| OPS.gvalN rfl rfl (GB.g rfl) rfl rfl (fun hg => Ev.add (gvE hg rfl) (gvE hg rfl) (by unfold fits; omega)) <| OPS.gvalN rfl rfl (GB.g rfl) rfl rfl (fun hg => Ev.mvI rfl) <| OPS.gvalN rfl rfl (GB.g rfl) rfl rfl (fun hg => Ev.lss (gvE hg rfl) (gvE hg rfl)) <| Y.g rfl rfl (fun hg => Ev.pickOr2 (beqT hg) (gvE hg rfl) rfl rfl) <| Y.v (Ev.pickAnd rfl rfl rfl) <| Y.z ?_
    refine WP.cond rfl (fun hc21 => ?_) (fun hc21 => ?_)
    ·have hcd : (decide (0 ≤ x) && (!found || decide (x + us.getD i 0 < v))) = true := hc21
     have hx0 : 0 ≤ x := by simp at hcd; exact hcd.1
     rw [if_pos hcd, show (found || decide (0 ≤ x)) = true by simp [hx0]] at hstep
     have hvb2 : 0 ≤ x + us.getD i 0 ∧ x + us.getD i 0 ≤ 2000000000 := by omega
     refine Y.r <| Y.v (Y.m rfl) <| Y.v (Y.m rfl) <| Y.v (Y.p rfl rfl) <| Y.v (Ev.asI rfl) <| Y.v (Ev.asB rfl) <| Y.z <| Y.r <| Y.v (Y.p rfl rfl) <| Y.v (Y.m rfl) <| Y.z ?_
     exact ⟨(by repeat (first | exact Agree.refl _ _ | exact Agree.mix _ _ _ | refine Agree.upd rfl ?_ | refine Agree.mix2 rfl ?_)), k2 - 1, by omega, i + 1, _, _, by omega, rfl, rfl, rfl, hstep, hvb2, H⟩
    have hcd : (decide (0 ≤ x) && (!found || decide (x + us.getD i 0 < v))) = false := hc21
    rw [if_neg (by rw [hcd]; simp), show (found || decide (0 ≤ x)) = found by
     cases found with
     | true => rfl
     | false => simp at hcd; simp; omega] at hstep
    have hvb2 := hvb
    refine Y.k <| Y.r <| Y.v (Y.p rfl rfl) <| Y.v (Y.m rfl) <| Y.z ?_
    exact ⟨(by repeat (first | exact Agree.refl _ _ | exact Agree.mix _ _ _ | refine Agree.upd rfl ?_ | refine Agree.mix2 rfl ?_)), k2 - 1, by omega, i + 1, _, _, by omega, rfl, rfl, rfl, hstep, hvb2, H⟩
   have hi : i = cs.length := by simp at hc18; omega
   subst hi
   refine WP.exit <| XB.hit <| Y.r <| Y.v (Y.f rfl rfl) <| Y.v (Y.l H 0 rfl rfl rfl) <| Y.v (Y.m rfl) <| OPS.buildSlice rfl rfl rfl rfl (bsl_31_1_0 rfl) H ?_
   clear H; intro g115 w H
   refine OPS.append (m := 1) (news := [I v]) (R := [⟨g115, 3, [I v]⟩, ⟨g7, 33, bndL (divI T cp) D.sum AU cs.length cu AV q cv⟩, ⟨g5, 71, [I D.sum, I T, .slice (some ⟨go, 0, none⟩) on.length on.length, .slice (some ⟨gp, 0, none⟩) pots.length pots.length]⟩, ⟨g2, 33, zeroB⟩, ⟨g1, 60, tskC Ac Ab At cs.length bs.length rs.length kc kb kt cp C.sum D.sum⟩, ⟨go, 3, on.map I⟩, ⟨gp, 3, pots.map I⟩] ++ Lu) rfl rfl rfl rfl rfl (sl_run rfl) rfl rfl hOv rfl (src_own H 0 rfl) rfl (by omega) (by unfold maxLen; omega) H sv2 ?_
   clear H hOv; intro AV cv Lv w hOv H
   unfold bndL at H
   simp only [List.cons_append, List.nil_append] at H
   refine Y.v (Y.f rfl rfl) <| Y.st 1 H rfl (cS rfl) rfl ?_
   clear H; intro w H; try simp only [List.set_cons_zero, List.set_cons_succ, putL, Nat.zero_add] at H
   refine Y.z <| Y.r <| Y.v (Y.p rfl rfl) <| Y.v (Y.m rfl) <| Y.z ?_
   refine ⟨(by repeat (first | exact Agree.refl _ _ | exact Agree.mix _ _ _ | refine Agree.upd rfl ?_ | refine Agree.mix2 rfl ?_)), k - 1, by omega, q + 1, AV, cv, Lv, vs ++ [v], by omega, rfl, by simp [hvl], fun i hi => ?_, (by rw [List.map_append]; exact hOv), ?_⟩
   ·by_cases hiq : i = q
    ·subst hiq
     refine ⟨found, ?_⟩
     have e : (vs ++ [v]).getD i 0 = v := by rw [← hvl]; simp
     rw [e]; exact hVM
    ·obtain ⟨f, hf⟩ := hvm i (by omega)
     refine ⟨f, ?_⟩
     have e : (vs ++ [v]).getD i 0 = vs.getD i 0 := by simp [List.getElem?_append_left (show i < vs.length by omega)]
     rw [e]; exact hf
   ·exact H.drop (List.sublist_cons_self _ _)
  have hq : q = bs.length := by simp at hc14; omega
  subst hq
  have hsol : Flo.Solved C D tm us vs T := by
   rw [hTe]
   refine Flo.solved_of hX hN (Flo.stand_p C D) (.inl rfl) hf ho hp0 hpb (by omega) (fun j hj => ?_) (by omega) (fun k hk => ?_) ⟨on, hf, rfl⟩
   ·rw [husg j (by omega)]; unfold Flo.potF; rw [show ((1 : Int) + (j : Int)).toNat = 1 + j by omega]
   ·rw [hCl]; exact hvm k (by omega)
  unfold bndL zeroB at H
  simp only [List.cons_append, List.nil_append] at H
  refine WP.exit <| XB.hit <| Y.qr <| Y.v (Y.o H 0 rfl rfl) <| Y.st 2 H rfl (cA rfl) rfl ?_
  clear H; intro w H; try simp only [List.set_cons_zero, List.set_cons_succ, putL, Nat.zero_add] at H
  refine Y.v (Ev.asI rfl) <| Y.z ?_
  refine WP.ret ⟨[_, _], ⟨(by exact resCellA 2 H rfl (agg_run rfl) (size_run rfl) (by rfl) rfl), rfl, trivial⟩, ?_⟩
  have H2 : SH w0 [] w ([_, _, _, _, _, _] ++ (Lu ++ Lv)) := H
  refine ⟨fun h => absurd hem (by rw [h]; simp), fun _ h => absurd hHall h, fun _ _ => ⟨us, vs, T, AU, AV, cu, cv, Lu ++ Lv, hsol, ?_, fun w0 S w H => ?_, H2.drop (List.sublist_append_right _ _)⟩⟩
  ·rw [husl, hvl]; rfl
  ·exact ⟨(hOu.ones (R := Lv) (H.perm List.perm_append_comm)).1, (hOv.ones H).1⟩
 ·have hHall2 := hHall
  refine Calls.ofWPc Try.func21 rfl Try.results21 Try.ntmps21 rfl <| Y.qr <| Y.bx (cA rfl) H ?_
  clear H; intro g1 w H
  refine Y.al H rfl rfl ?_
  clear H; intro g2 w H
  refine Y.v (Ev.asI rfl) <| Y.z <| Y.q <| Y.qr <| Y.v (Y.f rfl rfl) <| Y.v (Y.l H 1 rfl rfl rfl) <| Y.v (Ev.eql rfl rfl) <| Y.v (Ev.mvB rfl) <| Y.g rfl rfl (fun hg => Y.f rfl rfl) <| Y.g rfl rfl (fun hg => Ev.load1 (agg_run rfl) (gvE hg rfl) (H.ldL 1 rfl _ rfl)) <| Y.g rfl rfl (fun hg => Y.f rfl rfl) <| Y.g rfl rfl (fun hg => Ev.load1 (agg_run rfl) (gvE hg rfl) (H.ldL 1 rfl _ rfl)) <| Y.g rfl rfl (fun hg => Ev.gtr (gvE hg rfl) (gvE hg rfl)) <| Y.v (Ev.pickOr rfl rfl rfl) <| Y.z ?_
  refine WP.cond rfl (fun hc1 => ?_) (fun hc1 => ?_)
  ·refine Y.qr <| Y.v (Ev.build (bld_33_ (e := fun _ => .int .i64 0))) <| Y.st 0 H rfl (cA rfl) rfl ?_
   clear H; intro w H; try simp only [List.set_cons_zero, List.set_cons_succ, putL, Nat.zero_add] at H
   refine Y.v (Ev.asI rfl) <| Y.z ?_
   refine WP.ret ⟨[_, _], ⟨(by exact resCellA 0 H rfl (agg_run rfl) (size_run rfl) (by rfl) rfl), rfl, trivial⟩, ?_⟩
   exact ⟨fun _ => ⟨rfl, H.below⟩, fun h => absurd (show emptyB cp C.sum D.sum = true from hc1) (by rw [h]; simp), fun h => absurd (show emptyB cp C.sum D.sum = true from hc1) (by rw [h]; simp)⟩
  have hem : emptyB cp C.sum D.sum = false := hc1
  refine Y.k <| Y.qr <| Y.v (Y.o H 1 rfl rfl) <| OPS.call (d := some 27) rfl rfl rfl (EvC.func (fun_run rfl)) (boundNetwork2 (C := C) (D := D) (tm := tm) Ac Ab At cs bs rs kc kb kt cp C.sum D.sum w (hT.below H.below) hK hC hD htm) ?_
  rintro _ w ⟨A, cap, LA, rfl, hA, Hc⟩
  refine ⟨_, rfl, ?_⟩
  replace H := SH.call (Lv := []) (by rw [List.append_nil]; exact H) Hc
  clear Hc
  refine Y.al H rfl rfl ?_
  clear H; intro g4 w H
  refine Y.st 0 H rfl (cA rfl) rfl ?_
  clear H; intro w H; try simp only [List.set_cons_zero, List.set_cons_succ, putL, Nat.zero_add] at H
  refine Y.z <| Y.qr <| Y.v (Y.o H 0 rfl rfl) <| Y.v (Y.f rfl rfl) <| Y.v (Y.l H 0 rfl rfl rfl) <| Y.v (Y.s rfl rfl) <| Y.v (Y.f rfl rfl) <| Y.v (Y.l H 2 rfl rfl rfl) ?_
  have hcheap := Calls.mono (netCheap hX A cap w (hA.at H (List.sublist_append_right [_, _, _] _))) fun _ _ h => h.1 hHall
  refine OPS.call (d := some 35) rfl rfl rfl (EvC.func (fun_run rfl)) (hcheap) ?_
  rintro _ w ⟨rfl, hb⟩
  refine ⟨_, rfl, ?_⟩
  replace H := H.toBelow hb; clear hb
  refine Y.v (Ev.mvT rfl) <| Y.v (Ev.extract rfl rfl) <| Y.v (Ev.extract rfl rfl) <| Y.al H rfl rfl ?_
  clear H; intro g5 w H
  refine Y.st 0 H rfl (cA rfl) rfl ?_
  clear H; intro w H; try simp only [List.set_cons_zero, List.set_cons_succ, putL, Nat.zero_add] at H
  refine Y.v (Ev.asI rfl) <| Y.z <| Y.q <| Y.qr <| Y.v (Y.m rfl) <| Y.v (Ev.neq rfl rfl) <| Y.z ?_
  refine WP.cond rfl (fun hc5 => ?_) (fun hc5 => ?_)
  ·refine Y.qr <| Y.v (Ev.build (bld_33_ (e := fun _ => .int .i64 0))) <| Y.st 2 H rfl (cA rfl) rfl ?_
   clear H; intro w H; try simp only [List.set_cons_zero, List.set_cons_succ, putL, Nat.zero_add] at H
   refine Y.v (Ev.asI rfl) <| Y.z ?_
   refine WP.ret ⟨[_, _], ⟨(by exact resCellA 2 H rfl (agg_run rfl) (size_run rfl) (by rfl) rfl), rfl, trivial⟩, ?_⟩
   exact ⟨fun h => absurd hem (by rw [h]; simp), fun _ _ => ⟨rfl, H.below⟩, fun _ h => absurd h hHall⟩
  refine Y.k <| Y.q ?_
  exact absurd hc5 (by decide)
end Go.Proofs.Ytgjfjbphngamgaa

/-
 Walk: Find, numbers.
-/
set_option linter.all false
namespace Go.Proofs.Ytgjfjbphngamgaa
open Go Go.W Go.RowKit
theorem timL_at {m : Nat} {l : List Edg} {ns : List Need} {j k : Nat} {x : Int} (h : Flo.tmAt (timL m l ns) j k = some x) : ∃ (hj : j < (colN ns).length) (hk : k < (briN ns).length), x = roadT m l (colN ns)[j].node.toNat (briN ns)[k].node.toNat := by
 unfold Flo.tmAt timL at h
 rw [List.getElem?_map] at h
 cases hj : (colN ns)[j]? with
 | none => rw [hj] at h; simp at h
 | some a =>
  rw [hj] at h
  simp only [Option.map_some, Option.bind_some, List.getElem?_map] at h
  cases hk : (briN ns)[k]? with
  | none => rw [hk] at h; simp at h
  | some b =>
   rw [hk] at h
   simp at h
   obtain ⟨h1, h2⟩ := List.getElem?_eq_some_iff.1 hj
   obtain ⟨h3, h4⟩ := List.getElem?_eq_some_iff.1 hk
   exact ⟨h1, h3, by rw [← h, h2, h4]⟩
theorem timL_some {m : Nat} {l : List Edg} {ns : List Need} {j k : Nat} (hj : j < (colN ns).length) (hk : k < (briN ns).length) : Flo.tmAt (timL m l ns) j k = some (roadT m l (colN ns)[j].node.toNat (briN ns)[k].node.toNat) := by
 unfold Flo.tmAt timL
 simp [hj, hk]
theorem trans_ok {m : Nat} {l : List Edg} {ts : List Truck} {ns : List Need} {hd : Int} (hK : NightOk m l ts ns hd) : Flo.Trans (movC ns) (movD ns) (timL m l ns) := by
 have hl1 : (colN ns).length ≤ ns.length := List.length_filter_le _ _
 have hl2 : (briN ns).length ≤ ns.length := List.length_filter_le _ _
 have hnl := hK.nl
 have hcl : (movC ns).length = (colN ns).length := by simp [movC]
 have hdl : (movD ns).length = (briN ns).length := by simp [movD]
 have hdb : ∀ d ∈ movD ns, 1 ≤ d ∧ d ≤ 32 := fun d hd => by
  obtain ⟨y, hy, rfl⟩ := List.mem_map.1 hd
  obtain ⟨h1, h2⟩ := List.mem_filter.1 hy
  have := hK.nd y h1
  simp at h2; omega
 refine ⟨⟨by simp [timL, movC], fun j k x hx => ?_, fun d hd => by have := hdb d hd; omega⟩, fun c hc => ?_, hdb, by omega, by omega, fun j k x hx => ?_, fun j k hj hk => ⟨_, timL_some (by omega) (by omega)⟩⟩
 ·obtain ⟨h1, h2, _⟩ := timL_at hx; omega
 ·obtain ⟨y, hy, rfl⟩ := List.mem_map.1 hc
  obtain ⟨h1, h2⟩ := List.mem_filter.1 hy
  have := hK.nd y h1
  simp at h2; omega
 ·obtain ⟨h1, h2, rfl⟩ := timL_at hx
  have a1 := hK.nd (colN ns)[j] (List.mem_filter.1 (List.getElem_mem h1)).1
  have a2 := hK.nd (briN ns)[k] (List.mem_filter.1 (List.getElem_mem h2)).1
  exact roadT_bd hK.road (by omega) (by omega)
theorem task_ok {m : Nat} {l : List Edg} {ts : List Truck} {ns : List Need} {hd : Int} {rs : List (SlA Int)} (hK : NightOk m l ts ns hd) (hr : rs.map (·.l) = timL m l ns) : TaskOk (colN ns) (briN ns) rs := by
 have hl1 : (colN ns).length ≤ ns.length := List.length_filter_le _ _
 have hl2 : (briN ns).length ≤ ns.length := List.length_filter_le _ _
 have hnl := hK.nl
 refine ⟨by omega, by omega, ?_, fun r h => ?_, fun x hx => ?_, fun x hx => ?_⟩
 ·have := congrArg List.length hr
  simpa [timL] using this
 ·have : r.l ∈ timL m l ns := by rw [← hr]; exact List.mem_map_of_mem h
  obtain ⟨y, _, hy⟩ := List.mem_map.1 this
  rw [← hy]; simp
 ·have := hK.nd x (List.mem_filter.1 hx).1; omega
 ·have := hK.nd x (List.mem_filter.1 hx).1; omega
theorem capL_bd {m : Nat} {l : List Edg} {ts : List Truck} {ns : List Need} {hd : Int} (hK : NightOk m l ts ns hd) : 0 ≤ capL ts ∧ capL ts ≤ 32 := by
 have h : ∀ j, j ≤ ts.length → 0 ≤ capL (ts.take j) ∧ capL (ts.take j) ≤ 32 := fun j => by
  induction j with
  | zero => intro _; simp [capL]
  | succ j ih =>
   intro hj
   have := ih (by omega)
   have := hK.tr ts[j] (List.getElem_mem (by omega))
   rw [capL_take (show j < ts.length by omega)]
   split <;> omega
 have := h ts.length (Nat.le_refl _)
 rwa [List.take_length] at this
open Classical in
noncomputable def solveErr (cp : Int) (C D : List Int) (tm : List (List Int)) : Int := if emptyB cp C.sum D.sum = true then 10 else if Flo.Hall C D tm then 0 else 15
theorem boundSolveU {C D : List Int} {tm : List (List Int)} (Ac Ab At : Option Addr) (cs bs : List Need) (rs : List (SlA Int)) (kc kb kt : Nat) (cp : Int) (w0 : World) (hT : TaskAt w0 Ac Ab At cs bs rs) (hK : TaskOk cs bs rs) (hC : C = cs.map (·.move)) (hD : D = bs.map fun x => -x.move) (htm : tm = rs.map (·.l)) (hX : Flo.Trans C D tm) (hcp : 0 ≤ cp ∧ cp ≤ 32) :
  Calls Try.prog 21 #[.agg (tskC Ac Ab At cs.length bs.length rs.length kc kb kt cp C.sum D.sum).toArray] w0 fun e w' => ∃ (s b : Int) (us vs : List Int) (AU AV : Option Addr) (cu cv : Nat) (L : List Blk),
   e = .returned (.tuple #[.agg (bndL s b AU us.length cu AV vs.length cv).toArray, I (solveErr cp C D tm)]) ∧ (solveErr cp C D tm ≠ 0 → s = 0 ∧ b = 0 ∧ us = [] ∧ vs = []) ∧ (solveErr cp C D tm = 0 → ∃ T, Flo.Solved C D tm us vs T ∧ s = divI T cp ∧ b = D.sum ∧ 1 ≤ cp) ∧ Reads L (fun w => IntsAt w AU us ∧ IntsAt w AV vs) ∧ SH w0 [] w' L :=
 (boundSolve Ac Ab At cs bs rs kc kb kt cp w0 hT hK hC hD htm hX hcp).mono fun e w' ⟨h1, h2, h3⟩ => by
  cases he : emptyB cp C.sum D.sum with
  | true =>
   obtain ⟨rfl, hb⟩ := h1 he
   have hs : solveErr cp C D tm = 10 := by rw [solveErr, if_pos he]
   exact ⟨0, 0, [], [], none, none, 0, 0, [], by rw [hs]; rfl, fun _ => ⟨rfl, rfl, rfl, rfl⟩, (fun h => by rw [hs] at h; cases h), fun _ _ _ _ => ⟨OnesAt.nil, OnesAt.nil⟩, (SH.refl w0).toBelow hb⟩
  | false =>
   by_cases hH : Flo.Hall C D tm
   ·obtain ⟨us, vs, T, AU, AV, cu, cv, L, g1, rfl, g2, g3⟩ := h3 he hH
    have hs : solveErr cp C D tm = 0 := by rw [solveErr, if_neg (by rw [he]; simp), if_pos hH]
    refine ⟨divI T cp, D.sum, us, vs, AU, AV, cu, cv, L, by rw [hs], fun h => absurd hs h, fun _ => ⟨T, g1, rfl, rfl, ?_⟩, g2, g3⟩
    simp [emptyB] at he; omega
   ·obtain ⟨rfl, hb⟩ := h2 he hH
    have hs : solveErr cp C D tm = 15 := by rw [solveErr, if_neg (by rw [he]; simp), if_neg hH]
    exact ⟨0, 0, [], [], none, none, 0, 0, [], by rw [hs]; rfl, fun _ => ⟨rfl, rfl, rfl, rfl⟩, (fun h => by rw [hs] at h; cases h), fun _ _ _ _ => ⟨OnesAt.nil, OnesAt.nil⟩, (SH.refl w0).toBelow hb⟩
/-- the error of Find -/
noncomputable def findErr (n : Int) (l : List Edg) (ts : List Truck) (ns : List Need) (hd : Int) : Int := if nightErr n l ts ns hd ≠ 0 then nightErr n l ts ns hd else solveErr (capL ts) (movC ns) (movD ns) (timL n.toNat l ns)
/-- what Find returns -/
structure FindRet (n : Int) (l : List Edg) (ts : List Truck) (ns : List Need) (hd s b : Int) (us vs : List Int) : Prop where
 bad : findErr n l ts ns hd ≠ 0 → s = 0 ∧ b = 0 ∧ us = [] ∧ vs = []
 good : findErr n l ts ns hd = 0 → ∃ (m : Nat) (T : Int), n = m ∧ NightOk m l ts ns hd ∧ Flo.Solved (movC ns) (movD ns) (timL m l ns) us vs T ∧ s = divI T (capL ts) ∧ b = (movD ns).sum ∧ 1 ≤ capL ts
set_option maxHeartbeats 1000000 in
theorem boundFind (n hd : Int) (A B C : Option Addr) (l : List Edg) (ts : List Truck) (ns : List Need) (ca cb cc : Nat) (w0 : World) (hN : NightAt w0 A B C l ts ns cc) :
  Calls Try.prog 11 #[.agg #[I n, .slice A l.length ca, .slice B ts.length cb, .slice C ns.length cc, I hd]] w0 fun e w' => ∃ (s b : Int) (us vs : List Int) (AU AV : Option Addr) (cu cv : Nat) (L : List Blk),
   e = .returned (.tuple #[.agg (bndL s b AU us.length cu AV vs.length cv).toArray, I (findErr n l ts ns hd)]) ∧ FindRet n l ts ns hd s b us vs ∧ Reads L (fun w => IntsAt w AU us ∧ IntsAt w AV vs) ∧ SH w0 [] w' L := by
 have H := SH.refl w0
 by_cases h0 : nightErr n l ts ns hd = 0
 ·obtain ⟨m, rfl, hK⟩ := nightOk_of h0
  have hX := trans_ok hK
  have hcb := capL_bd hK
  have hfe : findErr m l ts ns hd = solveErr (capL ts) (movC ns) (movD ns) (timL m l ns) := by rw [findErr, if_neg (by simp [h0])]; simp
  refine Calls.ofWPc Try.func11 rfl Try.results11 Try.ntmps11 rfl <| Y.qr <| Y.bx (cA rfl) H ?_
  clear H; intro g1 w H
  refine Y.al H rfl rfl ?_
  clear H; intro g2 w H
  refine Y.v (Ev.asI rfl) <| Y.z <| Y.qr <| Y.v (Y.o H 1 rfl rfl) <| OPS.call (d := some 8) rfl rfl rfl (EvC.func (fun_run rfl)) (Calls.mono (boundRead m hd A B C l ts ns ca cb cc w (hN.sh H)) fun _ _ h => h.2 h0) ?_
  rintro _ w ⟨m2, Ac, Ab, At, rs, kc, kb, kt, LT, hm2, hrs, hT, rfl, Hc⟩
  refine ⟨_, rfl, ?_⟩
  replace H := SH.call (Lv := []) (by rw [List.append_nil]; exact H) Hc
  clear Hc
  obtain rfl : m = m2 := by omega
  have hTK := task_ok hK hrs
  refine Y.v (Ev.mvT rfl) <| Y.v (Ev.extract rfl rfl) <| Y.v (Ev.extract rfl rfl) <| Y.al H rfl rfl ?_
  clear H; intro g4 w H
  refine OPS.store 0 _ rfl rfl rfl (size_run rfl) rfl (cA rfl) rfl rfl H rfl (by simp) ?_
  clear H; intro w H; try simp only [List.set_cons_zero, List.set_cons_succ, putL, Nat.zero_add] at H
  refine Y.v (Ev.asI rfl) <| Y.z <| Y.q <| Y.qr <| Y.v (Y.m rfl) <| Y.v (Ev.neq rfl rfl) <| Y.z ?_
  refine WP.cond rfl (fun hc2 => ?_) (fun hc2 => ?_)
  ·refine Y.qr <| Y.v (Ev.build (bld_33_ (e := fun _ => .int .i64 0))) <| Y.v (Y.m rfl) <| Y.st 1 H rfl (cA rfl) rfl ?_
   clear H; intro w H; try simp only [List.set_cons_zero, List.set_cons_succ, putL, Nat.zero_add] at H
   refine Y.v (Ev.asI rfl) <| Y.z ?_
   refine WP.ret ⟨[_, _], ⟨(by exact resCellA 1 H rfl (agg_run rfl) (size_run rfl) (by rfl) rfl), rfl, trivial⟩, ?_⟩
   exact absurd hc2 (by decide)
  refine Y.k <| Y.q ?_
  simp only [List.cons_append, List.nil_append] at H
  refine Y.r <| Y.v (Y.o H 0 rfl rfl) <| OPS.call (d := some 16) rfl rfl rfl (EvC.func (fun_run rfl)) (boundSolveU (C := movC ns) (D := movD ns) (tm := timL m l ns) Ac Ab At (colN ns) (briN ns) rs kc kb kt (capL ts) w (hT.at H (List.sublist_append_right [_, _, _] _)) hTK rfl rfl hrs.symm hX hcb) ?_
  rintro _ w ⟨s, b, us, vs, AU, AV, cu, cv, L, rfl, hbad, hgood, hrd, Hc⟩
  refine ⟨_, rfl, ?_⟩
  replace H := SH.call (Lv := []) (by rw [List.append_nil]; exact H) Hc
  clear Hc
  simp only [List.cons_append, List.nil_append] at H
  rw [← hfe]
  refine OPS.val rfl rfl rfl (Ev.extract rfl rfl) ?_
  refine OPS.val rfl rfl rfl (Ev.extract rfl rfl) ?_
  refine OPS.store 1 _ rfl rfl rfl (size_run rfl) rfl (cA rfl) rfl rfl H rfl (by simp) ?_
  clear H; intro w H; try simp only [List.set_cons_zero, List.set_cons_succ, putL, Nat.zero_add] at H
  refine Y.v (Ev.asI rfl) <| Y.z ?_
  refine WP.ret ⟨[_, _], ⟨(by exact resCellA 1 H rfl (agg_run rfl) (size_run rfl) (by rfl) rfl), rfl, trivial⟩, ?_⟩
  refine ⟨s, b, us, vs, AU, AV, cu, cv, L, rfl, ⟨fun h => hbad (by rw [← hfe]; exact h), fun h => ?_⟩, hrd, ?_⟩
  ·obtain ⟨T, q1, q2, q3, q4⟩ := hgood (by rw [← hfe]; exact h)
   exact ⟨m, T, rfl, hK, q1, q2, q3, q4⟩
  ·exact H.drop (List.Sublist.cons _ (List.Sublist.cons _ (List.Sublist.cons _ (List.sublist_append_right LT L))))
 ·have hfe : findErr n l ts ns hd = nightErr n l ts ns hd := by rw [findErr, if_pos h0]
  have h0' := h0
  refine Calls.ofWPc Try.func11 rfl Try.results11 Try.ntmps11 rfl <| Y.qr <| Y.bx (cA rfl) H ?_
  clear H; intro g1 w H
  refine Y.al H rfl rfl ?_
  clear H; intro g2 w H
  refine Y.v (Ev.asI rfl) <| Y.z <| Y.qr <| Y.v (Y.o H 1 rfl rfl) <| OPS.call (d := some 8) rfl rfl rfl (EvC.func (fun_run rfl)) (Calls.mono (boundRead n hd A B C l ts ns ca cb cc w (hN.sh H)) fun _ _ h => h.1 h0) ?_
  rintro _ w ⟨rfl, hb⟩
  refine ⟨_, rfl, ?_⟩
  replace H := H.toBelow hb; clear hb
  refine Y.v (Ev.mvT rfl) <| Y.v (Ev.extract rfl rfl) <| Y.v (Ev.extract rfl rfl) <| Y.al H rfl rfl ?_
  clear H; intro g4 w H
  refine OPS.store 0 _ rfl rfl rfl (size_run rfl) rfl (cA rfl) rfl rfl H rfl (by simp) ?_
  clear H; intro w H; try simp only [List.set_cons_zero, List.set_cons_succ, putL, Nat.zero_add] at H
  refine Y.v (Ev.asI rfl) <| Y.z <| Y.q <| Y.qr <| Y.v (Y.m rfl) <| Y.v (Ev.neq rfl rfl) <| Y.z ?_
  refine WP.cond rfl (fun hc2 => ?_) (fun hc2 => ?_)
  ·refine Y.qr <| Y.v (Ev.build (bld_33_ (e := fun _ => .int .i64 0))) <| Y.v (Y.m rfl) <| Y.st 1 H rfl (cA rfl) rfl ?_
   clear H; intro w H; try simp only [List.set_cons_zero, List.set_cons_succ, putL, Nat.zero_add] at H
   refine Y.v (Ev.asI rfl) <| Y.z ?_
   refine WP.ret ⟨[_, _], ⟨(by exact resCellA 1 H rfl (agg_run rfl) (size_run rfl) (by rfl) rfl), rfl, trivial⟩, ?_⟩
   exact ⟨0, 0, [], [], none, none, 0, 0, [], by rw [hfe]; rfl, ⟨fun _ => ⟨rfl, rfl, rfl, rfl⟩, fun h => absurd (hfe ▸ h) h0⟩, fun _ _ _ _ => ⟨OnesAt.nil, OnesAt.nil⟩, H.drop (List.nil_sublist _)⟩
  refine Y.k <| Y.q ?_
  exact absurd hc2 (by simp [h0])
end Go.Proofs.Ytgjfjbphngamgaa

/-
 Walk: numbers, Proved.
-/
set_option linter.all false
namespace Go.Proofs.Ytgjfjbphngamgaa
open Go Go.W Go.RowKit
def rngB (l : List Int) : Bool := l.all fun x => decide (0 ≤ x) && decide (x ≤ 1125899906842624)
theorem boundNumbers (A : Option Addr) (l : List Int) (cap k : Nat) (w0 : World) (hz : IntsAt w0 A l) (hl : l.length ≤ 1000) :
  Calls Try.prog 31 #[.slice A l.length cap, I k] w0 fun e w' => e = .returned (.bool (rngB l && decide (l.length = k))) ∧ Below w0.heap.size w0 w' := by
 have H := SH.refl w0
 refine Calls.ofWP Try.func31 rfl Try.results31 Try.ntmps31 rfl <| Y.qr <| Y.v (Ev.asB rfl) <| Y.z <| Y.q <| Y.qr <| Y.v (Ev.mvS rfl) <| Y.v (Y.n rfl) <| Y.v (Y.m rfl) <| Y.z <| WP.block <| WP.loop [4, 6, 9, 10, 11, 12, 13, 14, 15, 16, 17, 18, 19] (fun k e w' => ∃ j : Nat, j + k = l.length ∧ e 9 = I j ∧ (∀ i (hi : i < l.length), i < j → 0 ≤ l[i] ∧ l[i] ≤ 1125899906842624) ∧ SH w0 [] w' []) (l.length) (⟨0, by omega, rfl, (fun i _ h => absurd h (by omega)), H⟩) ?_
 clear H
 rintro q u w ⟨j, hq, h9, hall, H⟩
 refine WP.know (t := 9) h9 <| Y.qr <| Y.v (Ev.lss rfl rfl) <| Y.z <| Y.q ?_
 refine WP.cond rfl (fun hc2 => ?_) (fun hc2 => ?_)
 ·have hlt : j < l.length := by simpa using hc2
  obtain ⟨b, o, rfl, hx⟩ := hz j hlt
  refine Y.k <| Y.q <| WP.block <| Y.qr <| Y.v (Y.x rfl rfl rfl rfl) <| Y.v (Y.c (H.ld0 (by assumption)) rfl) ?_
  refine Y.v (Ev.asI rfl) <| Y.z <| Y.qr <| Y.v (Y.m rfl) <| Y.v (Ev.lss rfl rfl) <| Y.v (Ev.mvB rfl) <| Y.g rfl rfl (fun hg => Y.m rfl) <| Y.g rfl rfl (fun hg => Ev.gtr (gvE hg rfl) rfl) <| Y.v (Ev.pickOr rfl rfl rfl) <| Y.z ?_
  refine WP.cond rfl (fun hc4 => ?_) (fun hc4 => ?_)
  ·refine Y.qr <| Y.v (Ev.asB rfl) <| Y.z ?_
   refine WP.ret ⟨_, rfl, ?_⟩
   have hb : ¬ (0 ≤ l[j] ∧ l[j] ≤ 1125899906842624) := by simp at hc4; omega
   have : rngB l = false := by
    unfold rngB; rw [List.all_eq_false]
    exact ⟨l[j], List.getElem_mem hlt, by simpa using fun h => Int.not_le.1 fun h2 => hb ⟨h, h2⟩⟩
   exact ⟨by rw [this]; rfl, H.below⟩
  refine Y.k <| Y.r <| Y.v (Y.p rfl rfl) <| Y.v (Y.m rfl) <| Y.z ?_
  have hb : 0 ≤ l[j] ∧ l[j] ≤ 1125899906842624 := by simp at hc4; omega
  refine ⟨(by repeat (first | exact Agree.refl _ _ | exact Agree.mix _ _ _ | refine Agree.upd rfl ?_ | refine Agree.mix2 rfl ?_)), q - 1, by omega, j + 1, by omega, rfl, fun i hi hij => ?_, H⟩
  rcases Nat.lt_succ_iff_lt_or_eq.1 hij with h | rfl
  ·exact hall i hi h
  ·exact hb
 refine WP.exit <| XB.hit <| Y.qr <| Y.v (Ev.mvS rfl) <| Y.v (Y.n rfl) <| Y.v (Y.m rfl) <| Y.v (Ev.eql rfl rfl) <| Y.v (Ev.asB rfl) <| Y.z ?_
 refine WP.ret ⟨_, rfl, ?_⟩
 have hj : j = l.length := by simp at hc2; omega
 have : rngB l = true := by
  unfold rngB; rw [List.all_eq_true]
  intro x hx
  obtain ⟨i, hi, rfl⟩ := List.mem_iff_getElem.1 hx
  have := hall i hi (by omega)
  simp [this]
 have e : decide ((l.length : Int) = k) = decide (l.length = k) := decide_eq_decide.2 (by omega)
 exact ⟨by rw [this, Bool.true_and, ← e]; rfl, H.below⟩
theorem rngB_at {l : List Int} (h : rngB l = true) (j : Nat) : 0 ≤ l.getD j 0 ∧ l.getD j 0 ≤ 1125899906842624 := by
 by_cases hj : j < l.length
 ·have h2 := List.all_eq_true.1 h l[j] (List.getElem_mem hj)
  have e : l.getD j 0 = l[j] := by simp [hj]
  rw [e]
  simp only [Bool.and_eq_true, decide_eq_true_eq] at h2
  exact h2
 ·simp [hj]
theorem dn_app : ∀ (D : List Int) (d : Int) (v : Nat → Int), Flo.dn (D ++ [d]) v = Flo.dn D v + d * v D.length
 | [], d, v => by simp [Flo.dn]
 | e :: D, d, v => by
  simp only [List.cons_append, Flo.dn, dn_app D d (fun k => v (k + 1)), List.length_cons]; omega
theorem dn_take {D : List Int} {v : Nat → Int} {j : Nat} (h : j < D.length) : Flo.dn (D.take (j + 1)) v = Flo.dn (D.take j) v + D[j] * v j := by
 rw [List.take_succ_eq_append_getElem h, dn_app, show (D.take j).length = j by simp; omega]
theorem prodB {a b : Int} (ha : 0 ≤ a ∧ a ≤ 32) (hb : 0 ≤ b ∧ b ≤ 1125899906842624) : 0 ≤ a * b ∧ a * b ≤ 36028797018963968 := by
 refine ⟨Int.mul_nonneg ha.1 hb.1, ?_⟩
 have h1 : a * b ≤ 32 * b := Int.mul_le_mul_of_nonneg_right ha.2 hb.1
 generalize a * b = c at *
 omega
/-- what Proved reports -/
structure ProvedP (n : Int) (l : List Edg) (ts : List Truck) (ns : List Need) (hd s b : Int) (us vs : List Int) : Prop where
 err : findErr n l ts ns hd = 0
 bk : b = (movD ns).sum
 un : rngB us = true ∧ us.length = (colN ns).length
 vn : rngB vs = true ∧ vs.length = (briN ns).length
 feas : Flo.Feas 1 (timL n.toNat l ns) (fun j => us.getD j 0) (fun k => vs.getD k 0)
 secs : s = divI (Flo.dn (movD ns) (fun k => vs.getD k 0) - Flo.dn (movC ns) (fun j => us.getD j 0)) (capL ts)
theorem getDx {l : List Int} {j : Nat} (h : j < l.length) : l[j] = l.getD j 0 := by simp [h]
set_option maxRecDepth 20000 in
set_option maxHeartbeats 4000000 in
theorem boundProved (n hd s b : Int) (A B C AU AV : Option Addr) (l : List Edg) (ts : List Truck) (ns : List Need) (us vs : List Int) (ca cb cc cu cv : Nat) (w0 : World) (hN : NightAt w0 A B C l ts ns cc) (hU : IntsAt w0 AU us) (hV : IntsAt w0 AV vs) (hul : us.length ≤ 1000) (hvl : vs.length ≤ 1000) :
  Calls Try.prog 14 #[.agg #[I n, .slice A l.length ca, .slice B ts.length cb, .slice C ns.length cc, I hd], .agg (bndL s b AU us.length cu AV vs.length cv).toArray] w0 fun e w' => ∃ r : Bool, e = .returned (.bool r) ∧ (r = true ↔ ProvedP n l ts ns hd s b us vs) ∧ Below w0.heap.size w0 w' := by
 have H := SH.refl w0
 by_cases h0 : nightErr n l ts ns hd = 0
 ·obtain ⟨m, rfl, hK⟩ := nightOk_of h0
  have hX := trans_ok hK
  have hcb := capL_bd hK
  have hfe : findErr m l ts ns hd = solveErr (capL ts) (movC ns) (movD ns) (timL m l ns) := by rw [findErr, if_neg (by simp [h0])]; simp
  refine Calls.ofWP Try.func14 rfl Try.results14 Try.ntmps14 rfl <| Y.qr <| Y.bx (cA rfl) H ?_
  clear H; intro g2 w H
  refine Y.bx (cA rfl) H ?_
  clear H; intro g3 w H
  refine Y.v (Ev.asB rfl) <| Y.z <| Y.qr <| Y.v (Y.o H 1 rfl rfl) <| OPS.call (d := some 18) rfl rfl rfl (EvC.func (fun_run rfl)) (Calls.mono (boundRead m hd A B C l ts ns ca cb cc w (hN.sh H)) fun _ _ h => h.2 h0) ?_
  rintro _ w ⟨m2, Ac, Ab, At, rs, kc, kb, kt, LT, hm2, hrs, hT, rfl, Hc⟩
  refine ⟨_, rfl, ?_⟩
  replace H := SH.call (Lv := []) (by rw [List.append_nil]; exact H) Hc
  clear Hc
  obtain rfl : m = m2 := by omega
  have hTK := task_ok hK hrs
  refine Y.v (Ev.mvT rfl) <| Y.v (Ev.extract rfl rfl) <| Y.v (Ev.extract rfl rfl) <| Y.al H rfl rfl ?_
  clear H; intro g5 w H
  refine OPS.store 0 _ rfl rfl rfl (size_run rfl) rfl (cA rfl) rfl rfl H rfl (by simp) ?_
  clear H; intro w H; try simp only [List.set_cons_zero, List.set_cons_succ, putL, Nat.zero_add] at H
  refine Y.v (Ev.asI rfl) <| Y.z <| Y.q <| Y.qr <| Y.v (Y.m rfl) <| Y.v (Ev.neq rfl rfl) <| Y.z ?_
  refine WP.cond rfl (fun hc2 => ?_) (fun hc2 => ?_)
  ·refine Y.qr <| Y.v (Ev.asB rfl) <| Y.z ?_
   refine WP.ret ⟨_, rfl, ?_⟩
   exact absurd hc2 (by decide)
  refine Y.k <| Y.q <| Y.qr <| Y.v (Y.o H 0 rfl rfl) <| OPS.call (d := some 25) rfl rfl rfl (EvC.func (fun_run rfl)) (boundSolveU (C := movC ns) (D := movD ns) (tm := timL m l ns) Ac Ab At (colN ns) (briN ns) rs kc kb kt (capL ts) w (hT.at H (List.sublist_append_right [_, _, _] _)) hTK rfl rfl hrs.symm hX hcb) ?_
  rintro _ w ⟨s2, b2, us2, vs2, AU2, AV2, cu2, cv2, L2, rfl, hbad, hgood, hrd, Hc⟩
  refine ⟨_, rfl, ?_⟩
  replace H := H.toBelow Hc.below
  clear Hc
  refine Y.v (Ev.mvT rfl) <| Y.v (Ev.extract rfl rfl) <| Y.v (Ev.extract rfl rfl) <| Y.al H rfl rfl ?_
  clear H; intro g7 w H
  refine OPS.store 0 _ rfl rfl rfl (size_run rfl) rfl (cA rfl) rfl rfl H rfl (by simp) ?_
  clear H; intro w H; try simp only [List.set_cons_zero, List.set_cons_succ, putL, Nat.zero_add] at H
  refine Y.v (Ev.asI rfl) <| Y.z <| Y.qr <| Y.v (Y.m rfl) <| Y.v (Ev.neq rfl rfl) <| Y.v (Ev.mvB rfl) <| Y.g rfl rfl (fun hg => Y.f rfl rfl) <| Y.g rfl rfl (fun hg => Ev.load1 (agg_run rfl) (gvE hg rfl) (H.ldL 2 rfl _ rfl)) <| Y.g rfl rfl (fun hg => Y.f rfl rfl) <| Y.g rfl rfl (fun hg => Ev.load1 (agg_run rfl) (gvE hg rfl) (H.ldL 1 rfl _ rfl)) <| Y.g rfl rfl (fun hg => Ev.neq (gvE hg rfl) (gvE hg rfl)) <| Y.v (Ev.pickOr rfl rfl rfl) <| Y.v (Ev.mvB rfl) <| Y.g rfl rfl (fun hg => Y.f rfl rfl) <| Y.g rfl rfl (fun hg => Ev.load1 (agg_run rfl) (gvE hg rfl) (H.ldL 2 rfl _ rfl)) <| Y.g rfl rfl (fun hg => Y.f rfl rfl) <| Y.g rfl rfl (fun hg => Ev.load1 (agg_run rfl) (gvE hg rfl) (H.ldL 1 rfl _ rfl)) <| Y.g rfl rfl (fun hg => Ev.len (el_run rfl) (gvE hg rfl)) <| OPS.gcall0 (f := 31) (boundNumbers AU us cu (colN ns).length w (hU.sh H) hul) (fun _ _ h => h) rfl rfl rfl rfl rfl (fun hg => EvC.conv (EvC.func (fun_run rfl)) (l2 (gvE hg rfl) (gvE hg rfl))) ?_
  intro w hbc; replace H := H.toBelow hbc
  refine Y.g rfl rfl (fun hg => Ev.not (gvE hg rfl)) <| Y.v (Ev.pickOr rfl rfl rfl) <| Y.v (Ev.mvB rfl) <| Y.g rfl rfl (fun hg => Y.f rfl rfl) <| Y.g rfl rfl (fun hg => Ev.load1 (agg_run rfl) (gvE hg rfl) (H.ldL 2 rfl _ rfl)) <| Y.g rfl rfl (fun hg => Y.f rfl rfl) <| Y.g rfl rfl (fun hg => Ev.load1 (agg_run rfl) (gvE hg rfl) (H.ldL 1 rfl _ rfl)) <| Y.g rfl rfl (fun hg => Ev.len (el_run rfl) (gvE hg rfl)) <| OPS.gcall0 (f := 31) (boundNumbers AV vs cv (briN ns).length w (hV.sh H) hvl) (fun _ _ h => h) rfl rfl rfl rfl rfl (fun hg => EvC.conv (EvC.func (fun_run rfl)) (l2 (gvE hg rfl) (gvE hg rfl))) ?_
  intro w hbc; replace H := H.toBelow hbc
  refine Y.g rfl rfl (fun hg => Ev.not (gvE hg rfl)) <| Y.v (Ev.pickOr rfl rfl rfl) <| Y.z ?_
  refine WP.cond rfl (fun hc5 => ?_) (fun hc5 => ?_)
  ·refine Y.qr <| Y.v (Ev.asB rfl) <| Y.z ?_
   refine WP.ret ⟨_, rfl, ?_⟩
   refine ⟨false, rfl, ⟨(fun h => by cases h), fun hp => ?_⟩, H.below⟩
   rw [← hfe, hp.err, hp.bk, hp.un.1, hp.un.2, hp.vn.1, hp.vn.2] at hc5
   simp at hc5
  obtain ⟨⟨⟨q1, q2⟩, q3, q4⟩, q5, q6⟩ : ((solveErr (capL ts) (movC ns) (movD ns) (timL m l ns) = 0 ∧ b = (movD ns).sum) ∧ rngB us = true ∧ us.length = (colN ns).length) ∧ rngB vs = true ∧ vs.length = (briN ns).length := by simpa using hc5
  obtain ⟨T, hsol, _, _, hcp1⟩ := hgood q1
  clear hgood hbad hrd
  have hl1 : (colN ns).length ≤ ns.length := List.length_filter_le _ _
  have hl2 : (briN ns).length ≤ ns.length := List.length_filter_le _ _
  have hnl := hK.nl
  have hCl : (movC ns).length = (colN ns).length := by simp [movC]
  have hDl : (movD ns).length = (briN ns).length := by simp [movD]
  have hrl := hTK.rl
  have hub := rngB_at q3
  have hvb := rngB_at q5
  have hLT : ∀ w, SH w0 [] w ([⟨g7, 33, bndL s2 b2 AU2 us2.length cu2 AV2 vs2.length cv2⟩, ⟨g5, 60, tskC Ac Ab At (colN ns).length (briN ns).length rs.length kc kb kt (capL ts) (movC ns).sum (movD ns).sum⟩, ⟨g3, 33, bndL s b AU us.length cu AV vs.length cv⟩, ⟨g2, 28, [I m, .slice A l.length ca, .slice B ts.length cb, .slice C ns.length cc, I hd]⟩] ++ LT) → TaskAt w Ac Ab At (colN ns) (briN ns) rs := fun w H => hT.at H (List.sublist_append_right _ _)
  obtain ⟨u, hu⟩ : ∃ u : Nat → Int, u = fun j => us.getD j 0 := ⟨_, rfl⟩
  obtain ⟨v, hv⟩ : ∃ v : Nat → Int, v = fun j => vs.getD j 0 := ⟨_, rfl⟩
  have hub2 : ∀ j, 0 ≤ u j ∧ u j ≤ 1125899906842624 := fun j => by rw [hu]; exact hub j
  have hvb2 : ∀ j, 0 ≤ v j ∧ v j ≤ 1125899906842624 := fun j => by rw [hv]; exact hvb j
  have hug : ∀ j (h : j < us.length), us[j] = u j := fun j h => by rw [hu]; exact getDx h
  have hvg : ∀ j (h : j < vs.length), vs[j] = v j := fun j h => by rw [hv]; exact getDx h
  have hno : ∀ w, SH w0 [] w ([⟨g7, 33, bndL s2 b2 AU2 us2.length cu2 AV2 vs2.length cv2⟩, ⟨g5, 60, tskC Ac Ab At (colN ns).length (briN ns).length rs.length kc kb kt (capL ts) (movC ns).sum (movD ns).sum⟩, ⟨g3, 33, bndL s b AU us.length cu AV vs.length cv⟩, ⟨g2, 28, [I m, .slice A l.length ca, .slice B ts.length cb, .slice C ns.length cc, I hd]⟩] ++ LT) → (¬ Flo.Feas 1 (timL m l ns) u v) → ∃ r : Bool, Ending.returned (Bo false) = .returned (.bool r) ∧ (r = true ↔ ProvedP m l ts ns hd s b us vs) ∧ Below w0.heap.size w0 w := fun w H hn =>
   ⟨false, rfl, ⟨(fun h => by cases h), fun hp => absurd (by have := hp.feas; rw [hu, hv]; simpa using this) hn⟩, H.below⟩
  replace H : SH w0 [] w ([⟨g7, 33, bndL s2 b2 AU2 us2.length cu2 AV2 vs2.length cv2⟩, ⟨g5, 60, tskC Ac Ab At (colN ns).length (briN ns).length rs.length kc kb kt (capL ts) (movC ns).sum (movD ns).sum⟩, ⟨g3, 33, bndL s b AU us.length cu AV vs.length cv⟩, ⟨g2, 28, [I m, .slice A l.length ca, .slice B ts.length cb, .slice C ns.length cc, I hd]⟩] ++ LT) := H
  refine Y.k <| Y.qr <| Y.v (Ev.asI rfl) <| Y.z <| Y.q <| Y.qr <| Y.v (Y.f rfl rfl) <| Y.v (Y.l H 1 rfl rfl rfl) <| Y.v (Y.n rfl) <| Y.v (Y.m rfl) <| Y.z <| WP.block <| WP.loop [4, 9, 10, 11, 12, 13, 58, 59, 60, 61, 62, 63, 64, 65, 66, 67, 68, 69, 70, 71, 72, 73, 74, 75, 76, 77, 78, 79, 80, 81, 82, 83, 84, 85, 86, 87, 88, 89, 90, 91, 92, 93, 94, 95, 96, 97, 98, 99, 100, 101, 102] (fun k e w' => ∃ (j : Nat) (sm : Int), j + k = (colN ns).length ∧ e 58 = I j ∧ e 9 = I sm ∧ sm = -Flo.dn ((movC ns).take j) u ∧ (-(36028797018963968 * (j : Int)) ≤ sm ∧ sm ≤ 0) ∧ (∀ i, i < j → ∀ k x, Flo.tmAt (timL m l ns) i k = some x → 0 ≤ x → v k ≤ u i + 1 * x) ∧ SH w0 [] w' ([⟨g7, 33, bndL s2 b2 AU2 us2.length cu2 AV2 vs2.length cv2⟩, ⟨g5, 60, tskC Ac Ab At (colN ns).length (briN ns).length rs.length kc kb kt (capL ts) (movC ns).sum (movD ns).sum⟩, ⟨g3, 33, bndL s b AU us.length cu AV vs.length cv⟩, ⟨g2, 28, [I m, .slice A l.length ca, .slice B ts.length cb, .slice C ns.length cc, I hd]⟩] ++ LT)) ((colN ns).length) (⟨0, 0, by omega, rfl, rfl, rfl, by omega, (fun i h => absurd h (by omega)), H⟩) ?_
  clear H
  rintro k uu w ⟨j, sm, hk, h58, h9, hsm, hsb, hfs, H⟩
  refine WP.know (t := 58) h58 (WP.know (t := 9) h9 ?_)
  refine Y.qr <| Y.v (Ev.lss rfl rfl) <| Y.z <| Y.q ?_
  refine WP.cond rfl (fun hc9 => ?_) (fun hc9 => ?_)
  ·have hlt : j < (colN ns).length := by simpa using hc9
   obtain ⟨bu, ou, rfl, hxu⟩ := hU j (by omega)
   rw [hug j (by omega)] at hxu
   have hTt := hLT w H
   obtain ⟨b1, o1, rfl, hcn⟩ := hTt.c j hlt
   obtain ⟨nx, hnx⟩ : ∃ nx, nx = (colN ns)[j] := ⟨_, rfl⟩
   rw [← hnx] at hcn
   have hmx : 1 ≤ nx.move ∧ nx.move ≤ 32 := by
    have := hX.cb nx.move (List.mem_map.2 ⟨nx, by rw [hnx]; exact List.getElem_mem hlt, rfl⟩)
    exact this
   have hCj : (movC ns)[j]'(by omega) = nx.move := by simp [movC, hnx]
   have hpb := prodB (a := nx.move) (b := u j) (by omega) (hub2 j)
   have hdn := dn_take (D := movC ns) (v := u) (j := j) (by omega)
   rw [hCj] at hdn
   have hcom : u j * nx.move = nx.move * u j := Int.mul_comm _ _
   obtain ⟨pd, hpd⟩ : ∃ pd, pd = nx.move * u j := ⟨_, rfl⟩
   rw [← hpd] at hpb hdn hcom
   have hf1 : fits (u j * nx.move) := by rw [hcom]; unfold fits; omega
   have hf2 : fits (sm - u j * nx.move) := by rw [hcom]; unfold fits; omega
   refine Y.k <| Y.q <| WP.block <| Y.qr <| Y.v (Y.m rfl) <| Y.v (Y.X rfl rfl rfl rfl rfl) <| Y.v (Ev.loadN (needCells nx) (agg_run rfl) (size_run rfl) rfl hcn) <| Y.al H rfl rfl ?_
   clear H; intro g11 w H
   refine OPS.val rfl rfl rfl (Ev.asI rfl) ?_
   refine OPS.store 0 _ rfl rfl rfl (size_run rfl) rfl (cA rfl) rfl rfl H rfl (by simp) ?_
   clear H; intro w H; try simp only [List.set_cons_zero, List.set_cons_succ, putL, Nat.zero_add] at H
   refine Y.z <| Y.q ?_
   unfold needCells at H
   simp only [putL, List.set_cons_zero, List.set_cons_succ] at H
   refine WP.rstill mixed (by kernel_rfl) H ?_
   clear H; intro w hbw11 H
   refine Y.v (Y.m rfl) <| Y.v (Y.f rfl rfl) <| Y.v (Y.l H 3 rfl rfl rfl) <| Y.v (Y.m rfl) <| Y.v (Y.x rfl rfl rfl rfl) <| Y.v (Y.c (H.ld0 (by assumption)) rfl) ?_
   refine Y.v (Y.f rfl rfl) <| Y.v (Y.l H 0 rfl rfl rfl) <| Y.v (Ev.mul rfl rfl hf1) <| Y.v (Ev.sub rfl rfl hf2) <| Y.v (Ev.asI rfl) <| OPS.nil_s <| Y.q ?_
   have hTt := hLT w (H.drop (List.sublist_cons_self _ _))
   obtain ⟨r, hre⟩ : ∃ r, r = rs[j]'(by have := hTK.rl; omega) := ⟨_, rfl⟩
   have hrm : r ∈ rs := by rw [hre]; exact List.getElem_mem _
   have hrI := hTt.r r hrm
   have hrb := hTK.row r hrm
   obtain ⟨bt, ot, rfl, hxt⟩ := hTt.t j (by have := hTK.rl; omega)
   rw [← hre] at hxt
   have hxe : ∀ q (h : q < r.l.length), Flo.tmAt (timL m l ns) j q = some r.l[q] := fun q h => by
    have e1 : (rs.map (·.l))[j]? = some r.l := by simp [show j < rs.length by have := hTK.rl; omega, ← hre]
    rw [hrs] at e1
    unfold Flo.tmAt
    rw [e1]
    simp [h]
   clear hre
   obtain ⟨rA, rc, rl⟩ := r
   simp only [slV] at hxt hrI hrb hxe
   refine Y.r <| Y.v (Y.f rfl rfl) <| Y.v (Y.l H 2 rfl rfl rfl) <| Y.v (Y.m rfl) <| Y.v (Y.x rfl rfl rfl rfl) <| Y.v (Y.c (by assumption) rfl) ?_
   refine Y.v (Y.n rfl) <| Y.v (Y.m rfl) <| Y.z <| WP.block <| WP.loop [4, 12, 13, 79, 80, 81, 82, 83, 84, 85, 86, 87, 88, 89, 90, 91, 92, 93, 94, 95, 96, 97, 98, 99, 100, 101] (fun k e w' => ∃ (q : Nat), q + k = rl.length ∧ e 79 = I q ∧ (∀ k x, k < q → Flo.tmAt (timL m l ns) j k = some x → 0 ≤ x → v k ≤ u j + 1 * x) ∧ SH w0 [] w' ([⟨g11, 48, [I nx.node, I nx.move]⟩, ⟨g7, 33, bndL s2 b2 AU2 us2.length cu2 AV2 vs2.length cv2⟩, ⟨g5, 60, tskC (some ⟨b1, o1, none⟩) Ab (some ⟨bt, ot, none⟩) (colN ns).length (briN ns).length rs.length kc kb kt (capL ts) (movC ns).sum (movD ns).sum⟩, ⟨g3, 33, bndL s b (some ⟨bu, ou, none⟩) us.length cu AV vs.length cv⟩, ⟨g2, 28, [I m, .slice A l.length ca, .slice B ts.length cb, .slice C ns.length cc, I hd]⟩] ++ LT)) (rl.length) (⟨0, by omega, rfl, (fun k x h => absurd h (by omega)), H⟩) ?_
   clear H hTt hcn hrI hxt
   rintro k2 uu2 w ⟨q, hk2, h79, hfq, H⟩
   refine WP.know (t := 79) h79 <| Y.qr <| Y.v (Ev.lss rfl rfl) <| Y.z <| Y.q ?_
   refine WP.cond rfl (fun hc13 => ?_) (fun hc13 => ?_)
   ·have hlt2 : q < rl.length := by simpa using hc13
    obtain ⟨bv, ov, rfl, hxv⟩ := hV q (by omega)
    rw [hvg q (by omega)] at hxv
    have hxe2 := hxe q hlt2
    obtain ⟨x, hx⟩ : ∃ x, x = rl[q] := ⟨_, rfl⟩
    rw [← hx] at hxe2
    have hxb := hX.tb j q x hxe2
    have hTt := hLT w (H.drop (List.sublist_cons_self _ _))
    have hub3 := hub2 j
    have hvb3 := hvb2 q
    refine Y.k <| Y.q <| WP.block <| Y.q ?_
    have hrr : IntsAt w rA rl := hTt.r ⟨rA, rc, rl⟩ hrm
    obtain ⟨br, orr, rfl, hxr⟩ := hrr q hlt2
    rw [← hx] at hxr
    refine Y.r <| Y.v (Y.m rfl) <| Y.v (Y.x rfl rfl rfl rfl) <| Y.v (Y.c (by assumption) rfl) ?_
    refine Y.v (Ev.asI rfl) <| Y.v (Ev.asI rfl) <| Y.z <| Y.q <| WP.rstill mixed (by kernel_rfl) H ?_
    clear H; intro w hbw15 H
    refine Y.v (Y.m rfl) <| Y.v (Ev.geq rfl rfl) <| Y.v (Ev.mvB rfl) <| Y.g rfl rfl (fun hg => Y.f rfl rfl) <| Y.g rfl rfl (fun hg => Ev.load1 (agg_run rfl) (gvE hg rfl) (H.ldL 3 rfl _ rfl)) <| Y.g rfl rfl (fun hg => Y.m rfl) <| Y.g rfl rfl (fun hg => Ev.indexAddr1 (el_run rfl) (size_run rfl) (gvE hg rfl) (gvE hg rfl) rfl (by omega)) <| Y.g rfl rfl (fun hg => Ev.load1 (agg_run rfl) (gvE hg rfl) (H.ld0 (by assumption))) ?_
    refine Y.g rfl rfl (fun hg => Y.f rfl rfl) <| Y.g rfl rfl (fun hg => Ev.load1 (agg_run rfl) (gvE hg rfl) (H.ldL 3 rfl _ rfl)) <| Y.g rfl rfl (fun hg => Y.m rfl) <| Y.g rfl rfl (fun hg => Ev.indexAddr1 (el_run rfl) (size_run rfl) (gvE hg rfl) (gvE hg rfl) rfl (by omega)) <| Y.g rfl rfl (fun hg => Ev.load1 (agg_run rfl) (gvE hg rfl) (H.ld0 (by assumption))) ?_
    refine Y.g rfl rfl (fun hg => Ev.sub (gvE hg rfl) (gvE hg rfl) (by unfold fits; omega)) <| Y.g rfl rfl (fun hg => Y.m rfl) <| Y.g rfl rfl (fun hg => Ev.gtr (gvE hg rfl) (gvE hg rfl)) <| Y.v (Ev.pickAnd rfl rfl rfl) <| OPS.nil_s ?_
    refine WP.cond rfl (fun hc15 => ?_) (fun hc15 => ?_)
    ·refine Y.qr <| Y.v (Ev.asB rfl) <| Y.z ?_
     refine WP.ret ⟨_, rfl, ?_⟩
     have hb : 0 ≤ x ∧ x < v q - u j := by simpa using hc15
     exact hno w (H.drop (List.sublist_cons_self _ _)) fun hF => by have := hF j q x hxe2 hb.1; omega
    refine Y.k <| Y.r <| Y.v (Y.p rfl rfl) <| Y.v (Y.m rfl) <| Y.z ?_
    have hb : ¬ (0 ≤ x ∧ x < v q - u j) := by simpa using hc15
    refine ⟨(by repeat (first | exact Agree.refl _ _ | exact Agree.mix _ _ _ | refine Agree.upd rfl ?_ | refine Agree.mix2 rfl ?_)), k2 - 1, by omega, q + 1, by omega, rfl, fun k y hky hy hy0 => ?_, H⟩
    by_cases hkq : k = q
    ·subst hkq; rw [hxe2] at hy; cases hy; omega
    ·exact hfq k y (by omega) hy hy0
   refine WP.exit <| XB.hit <| Y.r <| Y.v (Y.p rfl rfl) <| Y.v (Y.m rfl) <| Y.z ?_
   have hq : q = rl.length := by simp at hc13; omega
   refine ⟨(by repeat (first | exact Agree.refl _ _ | exact Agree.mix _ _ _ | refine Agree.upd rfl ?_ | refine Agree.mix2 rfl ?_)), k - 1, by omega, j + 1, sm - u j * nx.move, by omega, rfl, rfl, (by rw [hdn, hcom, hsm]; omega), (by rw [hcom]; omega), fun i hi k y hy hy0 => ?_, H.drop (List.sublist_cons_self _ _)⟩
   by_cases hij : i = j
   ·subst hij
    have := (hX.tab.cols i k y hy).2
    exact hfq k y (by omega) hy hy0
   ·exact hfs i (by omega) k y hy hy0
  have hj : j = (colN ns).length := by simp at hc9; omega
  subst hj
  rw [List.take_of_length_le (show (movC ns).length ≤ (colN ns).length by omega)] at hsm
  have hF : Flo.Feas 1 (timL m l ns) u v := fun i k x hx hx0 => hfs i (by have := (hX.tab.cols i k x hx).1; omega) k x hx hx0
  obtain ⟨dC, hdC⟩ : ∃ dC, dC = Flo.dn (movC ns) u := ⟨_, rfl⟩
  rw [← hdC] at hsm
  have hfin : ∀ w, SH w0 [] w ([⟨g7, 33, bndL s2 b2 AU2 us2.length cu2 AV2 vs2.length cv2⟩, ⟨g5, 60, tskC Ac Ab At (colN ns).length (briN ns).length rs.length kc kb kt (capL ts) (movC ns).sum (movD ns).sum⟩, ⟨g3, 33, bndL s b AU us.length cu AV vs.length cv⟩, ⟨g2, 28, [I m, .slice A l.length ca, .slice B ts.length cb, .slice C ns.length cc, I hd]⟩] ++ LT) → ∀ r : Bool, (r = true ↔ s = divI (Flo.dn (movD ns) v - dC) (capL ts)) → ∃ r2 : Bool, Ending.returned (Bo r) = .returned (.bool r2) ∧ (r2 = true ↔ ProvedP m l ts ns hd s b us vs) ∧ Below w0.heap.size w0 w := fun w H r hr => by
   refine ⟨r, rfl, ⟨fun h => ⟨by rw [hfe]; exact q1, q2, ⟨q3, q4⟩, ⟨q5, q6⟩, ?_, ?_⟩, fun hp => hr.2 ?_⟩, H.below⟩
   ·rw [← hu, ← hv]; simpa using hF
   ·rw [← hu, ← hv, ← hdC]; exact hr.1 h
   ·have h2 := hp.secs
    rw [← hu, ← hv, ← hdC] at h2; exact h2
  refine WP.exit <| XB.hit <| Y.q <| Y.qr <| Y.v (Y.f rfl rfl) <| Y.v (Y.l H 1 rfl rfl rfl) <| Y.v (Y.n rfl) <| Y.v (Y.m rfl) <| Y.z <| WP.block <| WP.loop [9, 14, 15, 106, 107, 108, 109, 110, 111, 112, 113, 114, 115, 116, 117, 118, 119, 120, 121, 122] (fun k e w' => ∃ (q : Nat) (sm2 : Int), q + k = (briN ns).length ∧ e 106 = I q ∧ e 9 = I sm2 ∧ sm2 = Flo.dn ((movD ns).take q) v - dC ∧ (sm ≤ sm2 ∧ sm2 ≤ 36028797018963968 * (q : Int)) ∧ SH w0 [] w' ([⟨g7, 33, bndL s2 b2 AU2 us2.length cu2 AV2 vs2.length cv2⟩, ⟨g5, 60, tskC Ac Ab At (colN ns).length (briN ns).length rs.length kc kb kt (capL ts) (movC ns).sum (movD ns).sum⟩, ⟨g3, 33, bndL s b AU us.length cu AV vs.length cv⟩, ⟨g2, 28, [I m, .slice A l.length ca, .slice B ts.length cb, .slice C ns.length cc, I hd]⟩] ++ LT)) ((briN ns).length) (⟨0, sm, by omega, rfl, rfl, (by rw [hsm]; simp [Flo.dn]), by omega, H⟩) ?_
  clear H
  rintro k uu w ⟨q, sm2, hk, h106, h9, hs2, hs2b, H⟩
  refine WP.know (t := 106) h106 (WP.know (t := 9) h9 ?_)
  refine Y.qr <| Y.v (Ev.lss rfl rfl) <| Y.z <| Y.q ?_
  refine WP.cond rfl (fun hc20 => ?_) (fun hc20 => ?_)
  ·have hlt : q < (briN ns).length := by simpa using hc20
   obtain ⟨bv, ov, rfl, hxv⟩ := hV q (by omega)
   rw [hvg q (by omega)] at hxv
   have hTt := hLT w H
   obtain ⟨b1, o1, rfl, hcn⟩ := hTt.b q hlt
   obtain ⟨ny, hny⟩ : ∃ ny, ny = (briN ns)[q] := ⟨_, rfl⟩
   rw [← hny] at hcn
   have hDj : (movD ns)[q]'(by omega) = -ny.move := by simp [movD, hny]
   have hmx : 1 ≤ -ny.move ∧ -ny.move ≤ 32 := hX.db (-ny.move) (List.mem_map.2 ⟨ny, by rw [hny]; exact List.getElem_mem hlt, rfl⟩)
   have hpb := prodB (a := -ny.move) (b := v q) (by omega) (hvb2 q)
   have hdn := dn_take (D := movD ns) (v := v) (j := q) (by omega)
   rw [hDj] at hdn
   have hcom : v q * -ny.move = -ny.move * v q := Int.mul_comm _ _
   obtain ⟨pd, hpd⟩ : ∃ pd, pd = -ny.move * v q := ⟨_, rfl⟩
   rw [← hpd] at hpb hdn hcom
   have hf1 : fits (v q * -ny.move) := by rw [hcom]; unfold fits; omega
   have hf2 : fits (sm2 + v q * -ny.move) := by rw [hcom]; unfold fits; omega
   refine Y.k <| Y.q <| WP.block <| Y.qr <| Y.v (Y.m rfl) <| Y.v (Y.X rfl rfl rfl rfl rfl) <| Y.v (Ev.loadN (needCells ny) (agg_run rfl) (size_run rfl) rfl hcn) <| Y.al H rfl rfl ?_
   clear H; intro g15 w H
   refine OPS.val rfl rfl rfl (Ev.asI rfl) ?_
   refine OPS.store 0 _ rfl rfl rfl (size_run rfl) rfl (cA rfl) rfl rfl H rfl (by simp) ?_
   clear H; intro w H; try simp only [List.set_cons_zero, List.set_cons_succ, putL, Nat.zero_add] at H
   refine Y.z ?_
   unfold needCells at H
   simp only [putL, List.set_cons_zero, List.set_cons_succ] at H
   refine WP.rstill mixed (by kernel_rfl) H ?_
   clear H; intro w hbw22 H
   refine Y.v (Y.m rfl) <| Y.v (Y.f rfl rfl) <| Y.v (Y.l H 3 rfl rfl rfl) <| Y.v (Y.m rfl) <| Y.v (Y.x rfl rfl rfl rfl) <| Y.v (Y.c (H.ld0 (by assumption)) rfl) ?_
   refine Y.v (Y.f rfl rfl) <| Y.v (Y.l H 0 rfl rfl rfl) <| Y.v (Ev.neg rfl (by unfold fits; omega)) <| Y.v (Ev.mul rfl rfl hf1) <| Y.v (Ev.add rfl rfl hf2) <| Y.v (Ev.asI rfl) <| OPS.nil_s <| Y.r <| Y.v (Y.p rfl rfl) <| Y.v (Y.m rfl) <| Y.z ?_
   exact ⟨(by repeat (first | exact Agree.refl _ _ | exact Agree.mix _ _ _ | refine Agree.upd rfl ?_ | refine Agree.mix2 rfl ?_)), k - 1, by omega, q + 1, sm2 + v q * -ny.move, by omega, rfl, rfl, (by rw [hdn, hcom, hs2]; omega), (by rw [hcom]; omega), H.drop (List.sublist_cons_self _ _)⟩
  have hq : q = (briN ns).length := by simp at hc20; omega
  subst hq
  rw [List.take_of_length_le (show (movD ns).length ≤ (briN ns).length by omega)] at hs2
  refine WP.exit <| XB.hit <| Y.q <| Y.qr <| Y.v (Y.m rfl) <| Y.v (Ev.lss rfl rfl) <| Y.z ?_
  refine WP.cond rfl (fun hc24 => ?_) (fun hc24 => ?_)
  ·refine Y.qr <| Y.v (Y.f rfl rfl) <| Y.v (Y.l H 2 rfl rfl rfl) <| Y.v (Ev.eql rfl rfl) <| Y.v (Ev.asB rfl) <| Y.z ?_
   refine WP.ret ⟨_, rfl, ?_⟩
   have hneg : sm2 < 0 := by simpa using hc24
   refine hfin w H _ ?_
   rw [← hs2, divI, if_pos (by omega)]
   simp
  have hneg : 0 ≤ sm2 := by simpa using hc24
  refine Y.k <| Y.q <| WP.rquiet mixed (by kernel_rfl) H ?_
  clear H; intro w hbw26 H
  refine Y.v (Y.f rfl rfl) <| Y.v (Y.l H 2 rfl rfl rfl) <| Y.v (Y.m rfl) <| Y.v (Y.f rfl rfl) <| Y.v (Y.l H 1 rfl rfl rfl) <| OPS.callq rfl rfl rfl (EvC.func (fun_run rfl)) (fun w2 hb2 => boundUp sm2 (capL ts) w2 (by omega) (by omega)) ?_
  refine Y.v (Ev.eql rfl rfl) <| Y.v (Ev.asB rfl) <| OPS.nilq H ?_
  clear H; intro w hbx26 H
  refine WP.ret ⟨_, rfl, ?_⟩
  refine hfin w H _ ?_
  rw [← hs2]
  simp
 ·have hfe : findErr n l ts ns hd = nightErr n l ts ns hd := by rw [findErr, if_pos h0]
  refine Calls.ofWP Try.func14 rfl Try.results14 Try.ntmps14 rfl <| Y.qr <| Y.bx (cA rfl) H ?_
  clear H; intro g2 w H
  refine Y.bx (cA rfl) H ?_
  clear H; intro g3 w H
  refine Y.v (Ev.asB rfl) <| Y.z <| Y.qr <| Y.v (Y.o H 1 rfl rfl) <| OPS.call (d := some 18) rfl rfl rfl (EvC.func (fun_run rfl)) (Calls.mono (boundRead n hd A B C l ts ns ca cb cc w (hN.sh H)) fun _ _ h => h.1 h0) ?_
  rintro _ w ⟨rfl, hb⟩
  refine ⟨_, rfl, ?_⟩
  replace H := H.toBelow hb; clear hb
  refine Y.v (Ev.mvT rfl) <| Y.v (Ev.extract rfl rfl) <| Y.v (Ev.extract rfl rfl) <| Y.al H rfl rfl ?_
  clear H; intro g5 w H
  refine OPS.store 0 _ rfl rfl rfl (size_run rfl) rfl (cA rfl) rfl rfl H rfl (by simp) ?_
  clear H; intro w H; try simp only [List.set_cons_zero, List.set_cons_succ, putL, Nat.zero_add] at H
  refine Y.v (Ev.asI rfl) <| Y.z <| Y.q <| Y.qr <| Y.v (Y.m rfl) <| Y.v (Ev.neq rfl rfl) <| Y.z ?_
  refine WP.cond rfl (fun hc2 => ?_) (fun hc2 => ?_)
  ·refine Y.qr <| Y.v (Ev.asB rfl) <| Y.z ?_
   refine WP.ret ⟨_, rfl, ?_⟩
   exact ⟨false, rfl, ⟨(fun h => by cases h), fun hp => absurd (hfe ▸ hp.err) h0⟩, H.below⟩
  refine Y.k <| Y.q <| Y.q ?_
  exact absurd hc2 (by simp [h0])
end Go.Proofs.Ytgjfjbphngamgaa

/-
 Plain: what Find finds is proved; the chapter's examples.
-/
set_option linter.all false
namespace Go.Proofs.Ytgjfjbphngamgaa
open Go Go.W Go.RowKit
theorem FindRet.proved {n : Int} {l : List Edg} {ts : List Truck} {ns : List Need} {hd s b : Int} {us vs : List Int} (h : FindRet n l ts ns hd s b us vs) (he : findErr n l ts ns hd = 0) : ProvedP n l ts ns hd s b us vs := by
 obtain ⟨m, T, rfl, hK, hS, h1, h2, h3⟩ := h.good he
 have hC : (movC ns).length = (colN ns).length := by simp [movC]
 have hD : (movD ns).length = (briN ns).length := by simp [movD]
 refine ⟨he, h2, ⟨?_, by rw [hS.ul, hC]⟩, ⟨?_, by rw [hS.vl, hD]⟩, by simpa using hS.feas, by rw [hS.val]; exact h1⟩
 ·unfold rngB; rw [List.all_eq_true]
  intro x hx
  have := hS.ub x hx
  simp; omega
 ·unfold rngB; rw [List.all_eq_true]
  intro x hx
  have := hS.vb x hx
  simp; omega
/-! ### examples -/
def xbL : List Edg := [⟨0, 1, 100⟩, ⟨1, 2, 100⟩, ⟨2, 0, 100⟩]
def xbT : List Truck := [⟨0, 4, 0, 9000⟩]
def xb1 : List Need := [⟨1, 5⟩, ⟨0, -3⟩]
def xb2 : List Need := [⟨1, 5⟩, ⟨0, -6⟩]
def xb3 : List Need := [⟨1, 5⟩]
def xb4 : List Need := [⟨1, 5⟩, ⟨0, -3⟩, ⟨2, 2⟩]
theorem xbN1 : nightErr 3 xbL xbT xb1 0 = 0 := by decide
theorem xbN2 : nightErr 3 xbL xbT xb2 0 = 0 := by decide
theorem xbN3 : nightErr 3 xbL xbT xb3 0 = 0 := by decide
theorem xbN4 : nightErr 3 xbL xbT xb4 0 = 0 := by decide
theorem xbRoad : RoadOk 3 xbL := by
 obtain ⟨m, hm, hN⟩ := nightOk_of xbN1
 obtain rfl : m = 3 := by omega
 exact hN.road
theorem xbEdge {i u v : Nat} {w : Int} (h : EdgeAt xbL i u v w) : (u = 0 ∧ v = 1 ∧ w = 100) ∨ (u = 1 ∧ v = 2 ∧ w = 100) ∨ (u = 2 ∧ v = 0 ∧ w = 100) := by
 obtain ⟨hi, h1, h2, h3⟩ := h
 have hi6 : i < 3 := hi
 match i, hi6, hi, h1, h2, h3 with
 | 0, _, _, h1, h2, h3 => have h1 : (0 : Int) = u := h1; have h2 : (1 : Int) = v := h2; have h3 : (100 : Int) = w := h3; omega
 | 1, _, _, h1, h2, h3 => have h1 : (1 : Int) = u := h1; have h2 : (2 : Int) = v := h2; have h3 : (100 : Int) = w := h3; omega
 | 2, _, _, h1, h2, h3 => have h1 : (2 : Int) = u := h1; have h2 : (0 : Int) = v := h2; have h3 : (100 : Int) = w := h3; omega
theorem xbRD {s : Nat} {a b c : Int} (h0 : tab3 a b c s = 0) (ha : 0 ≤ a) (hb : 0 ≤ b) (hc : 0 ≤ c) (hclo : b ≤ a + 100 ∧ c ≤ b + 100 ∧ a ≤ c + 100)
  (hpar : ∀ v, v < 3 → v ≠ s → ∃ u i w, u < 3 ∧ EdgeAt xbL i u v w ∧ tab3 a b c v = tab3 a b c u + w) : RD xbL 3 s (fun _ => true) (tab3 a b c) where
 src := ⟨rfl, h0⟩
 clo i u v w hE _ _ _ := by
  refine ⟨rfl, ?_⟩
  rcases xbEdge hE with ⟨rfl, rfl, rfl⟩ | ⟨rfl, rfl, rfl⟩ | ⟨rfl, rfl, rfl⟩ <;> simp [tab3] <;> omega
 par v hv _ hvs := by
  obtain ⟨u, i, w, h1, h2, h3⟩ := hpar v hv hvs
  exact ⟨u, i, w, h1, rfl, h2, h3⟩
 nn v _ _ := by unfold tab3; split <;> (try split) <;> omega
theorem xbRD1 : RD xbL 3 1 (fun _ => true) (tab3 200 0 100) := xbRD rfl (by omega) (by omega) (by omega) (by omega) fun v hv hne => by
 rcases (show v = 0 ∨ v = 2 by omega) with rfl | rfl
 ·exact ⟨2, 2, 100, by omega, ⟨by decide, rfl, rfl, rfl⟩, rfl⟩
 ·exact ⟨1, 1, 100, by omega, ⟨by decide, rfl, rfl, rfl⟩, rfl⟩
theorem xbRD2 : RD xbL 3 2 (fun _ => true) (tab3 100 200 0) := xbRD rfl (by omega) (by omega) (by omega) (by omega) fun v hv hne => by
 rcases (show v = 0 ∨ v = 1 by omega) with rfl | rfl
 ·exact ⟨2, 2, 100, by omega, ⟨by decide, rfl, rfl, rfl⟩, rfl⟩
 ·exact ⟨0, 0, 100, by omega, ⟨by decide, rfl, rfl, rfl⟩, rfl⟩
theorem xb10 : roadT 3 xbL 1 0 = 200 := by rw [roadT_eq xbRoad xbRD1 (by omega)]; rfl
theorem xb20 : roadT 3 xbL 2 0 = 100 := by rw [roadT_eq xbRoad xbRD2 (by omega)]; rfl
theorem xbTm1 : timL 3 xbL xb1 = [[200]] := by
 have h : timL 3 xbL xb1 = [[roadT 3 xbL 1 0]] := rfl
 rw [h, xb10]
theorem xbTm3 : timL 3 xbL xb3 = [[]] := rfl
theorem xbTm4 : timL 3 xbL xb4 = [[200], [100]] := by
 have h : timL 3 xbL xb4 = [[roadT 3 xbL 1 0], [roadT 3 xbL 2 0]] := rfl
 rw [h, xb10, xb20]
theorem tm1 {a x : Int} {j k : Nat} (h : Flo.tmAt [[a]] j k = some x) : j = 0 ∧ k = 0 ∧ x = a := by
 unfold Flo.tmAt at h
 match j, k, h with
 | 0, 0, h => simp at h; exact ⟨rfl, rfl, h.symm⟩
 | 0, k + 1, h => simp at h
 | j + 1, k, h => simp at h
theorem tm2 {a b x : Int} {j k : Nat} (h : Flo.tmAt [[a], [b]] j k = some x) : (j = 0 ∧ k = 0 ∧ x = a) ∨ (j = 1 ∧ k = 0 ∧ x = b) := by
 unfold Flo.tmAt at h
 match j, k, h with
 | 0, 0, h => simp at h; exact .inl ⟨rfl, rfl, h.symm⟩
 | 0, k + 1, h => simp at h
 | 1, 0, h => simp at h; exact .inr ⟨rfl, rfl, h.symm⟩
 | 1, k + 1, h => simp at h
 | j + 2, k, h => simp at h
theorem tm0 {x : Int} {j k : Nat} (h : Flo.tmAt [[]] j k = some x) : False := by
 unfold Flo.tmAt at h
 match j, h with
 | 0, h => simp at h
 | j + 1, h => simp at h
theorem xbE1 : findErr 3 xbL xbT xb1 0 = 0 := by
 rw [findErr, if_neg (by rw [xbN1]; simp), show (3 : Int).toNat = 3 from rfl, xbTm1, solveErr, if_neg (by decide), if_pos]
 intro u v hu hF
 have := hF 0 0 200 rfl (by omega)
 have := hu 0
 show Flo.dn [3] v ≤ Flo.dn [5] u
 simp [Flo.dn]; omega
theorem xbE2 : findErr 3 xbL xbT xb2 0 = 10 := by
 rw [findErr, if_neg (by rw [xbN2]; simp), solveErr, if_pos (by decide)]
theorem xbE3 : findErr 3 xbL xbT xb3 0 = 0 := by
 rw [findErr, if_neg (by rw [xbN3]; simp), show (3 : Int).toNat = 3 from rfl, xbTm3, solveErr, if_neg (by decide), if_pos]
 intro u v hu hF
 have := hu 0
 show Flo.dn [] v ≤ Flo.dn [5] u
 simp [Flo.dn]; omega
theorem xbE4 : findErr 3 xbL xbT xb4 0 = 0 := by
 rw [findErr, if_neg (by rw [xbN4]; simp), show (3 : Int).toNat = 3 from rfl, xbTm4, solveErr, if_neg (by decide), if_pos]
 intro u v hu hF
 have := hF 0 0 200 rfl (by omega)
 have := hF 1 0 100 rfl (by omega)
 have := hu 0
 have := hu 1
 show Flo.dn [3] v ≤ Flo.dn [5, 2] u
 simp [Flo.dn]; omega
theorem xbD1 : Flo.DMax [5] [3] [[200]] 600 := by
 refine ⟨⟨fun _ => 0, fun _ => 200, fun _ => Int.le_refl _, fun j k x h _ => by obtain ⟨_, _, rfl⟩ := tm1 h; show (200 : Int) ≤ 0 + 1 * 200; omega, by simp [Flo.dn]⟩, fun u v hu hF => ?_⟩
 have := hF 0 0 200 rfl (by omega)
 have := hu 0
 simp [Flo.dn]; omega
theorem xbD3 : Flo.DMax [5] [] [[]] 0 := by
 refine ⟨⟨fun _ => 0, fun _ => 0, fun _ => Int.le_refl _, fun j k x h _ => (tm0 h).elim, by simp [Flo.dn]⟩, fun u v hu hF => ?_⟩
 have := hu 0
 simp [Flo.dn]; omega
theorem xbD4 : Flo.DMax [5, 2] [3] [[200], [100]] 400 := by
 refine ⟨⟨fun j => if j = 0 then 0 else 100, fun _ => 200, fun j => by show (0 : Int) ≤ if j = 0 then 0 else 100; split <;> omega, fun j k x h _ => by rcases tm2 h with ⟨rfl, _, rfl⟩ | ⟨rfl, _, rfl⟩ <;> simp, by simp [Flo.dn]⟩, fun u v hu hF => ?_⟩
 have := hF 0 0 200 rfl (by omega)
 have := hF 1 0 100 rfl (by omega)
 have := hu 0
 have := hu 1
 simp [Flo.dn]; omega
theorem xbR1 {s b : Int} {us vs : List Int} (h : FindRet 3 xbL xbT xb1 0 s b us vs) : s = 150 ∧ b = 3 := by
 obtain ⟨m, T, hm, _, hS, h1, h2, _⟩ := h.good xbE1
 obtain rfl : m = 3 := by omega
 have hx := hS.max
 rw [xbTm1] at hx
 obtain rfl : T = 600 := hx.unique xbD1
 exact ⟨h1.trans (by decide), h2.trans (by decide)⟩
theorem xbR3 {s b : Int} {us vs : List Int} (h : FindRet 3 xbL xbT xb3 0 s b us vs) : s = 0 := by
 obtain ⟨m, T, hm, _, hS, h1, h2, _⟩ := h.good xbE3
 obtain rfl : m = 3 := by omega
 have hx := hS.max
 rw [xbTm3] at hx
 obtain rfl : T = 0 := hx.unique xbD3
 exact h1.trans (by decide)
theorem xbR4 {s b : Int} {us vs : List Int} (h : FindRet 3 xbL xbT xb4 0 s b us vs) : s = 100 := by
 obtain ⟨m, T, hm, _, hS, h1, h2, _⟩ := h.good xbE4
 obtain rfl : m = 3 := by omega
 have hx := hS.max
 rw [xbTm4] at hx
 obtain rfl : T = 400 := hx.unique xbD4
 exact h1.trans (by decide)
theorem xbP1 : ProvedP 3 xbL xbT xb1 0 150 3 [0] [200] :=
 ⟨xbE1, by decide, by decide, by decide, (by rw [show (3 : Int).toNat = 3 from rfl, xbTm1]; intro j k x h _; obtain ⟨rfl, rfl, rfl⟩ := tm1 h; simp), by decide⟩
theorem xbP2 : ¬ ProvedP 3 xbL xbT xb1 0 151 3 [0] [201] := fun h => by
 have hF := h.feas
 rw [show (3 : Int).toNat = 3 from rfl, xbTm1] at hF
 have := hF 0 0 200 rfl (by omega)
 simp at this
theorem xbP4 : ProvedP 3 xbL xbT xb4 0 100 3 [0, 100] [200] :=
 ⟨xbE4, by decide, by decide, by decide, (by rw [show (3 : Int).toNat = 3 from rfl, xbTm4]; intro j k x h _; rcases tm2 h with ⟨rfl, rfl, rfl⟩ | ⟨rfl, rfl, rfl⟩ <;> simp), by decide⟩
end Go.Proofs.Ytgjfjbphngamgaa

/-
 Walks: example, awake, Short.
-/
set_option linter.all false
namespace Go.Proofs.Ytgjfjbphngamgaa
open Go Go.W Go.RowKit
def xbCells (a b : Nat) (c : Option Addr) (nl nc : Nat) : List Value := [I 3, .slice (some ⟨a, 0, none⟩) xbL.length 3, .slice (some ⟨b, 0, none⟩) xbT.length 1, .slice c nl nc, I 0]
theorem lawExample (A : Option Addr) (nl nc : Nat) (w0 : World) : Calls Try.prog 19 #[.slice A nl nc] w0 fun e w' => ∃ a b : Nat, e = .returned (.agg (xbCells a b A nl nc).toArray) ∧ SH w0 [] w' [⟨a, 44, xbL.flatMap edgCells⟩, ⟨b, 42, xbT.flatMap truckCells⟩] := by
 have H := SH.refl w0
 refine Calls.ofWPc Try.func19 rfl Try.results19 Try.ntmps19 rfl <| Y.qr <| Y.al H rfl rfl ?_
 clear H; intro g2 w H
 refine Y.z <| Y.qr <| Y.v (Ev.build (bld_44_0_1_2 rfl rfl rfl)) <| Y.v (Ev.build (bld_44_0_1_2 rfl rfl rfl)) <| Y.v (Ev.build (bld_44_0_1_2 rfl rfl rfl)) <| OPS.buildSlice rfl rfl rfl rfl (bsl_22_3_0_1_2 rfl rfl rfl) H ?_
 clear H; intro g7 w H
 refine Y.v (Ev.build (bld_24_0_1 rfl rfl)) <| Y.al H rfl rfl ?_
 clear H; intro g3 w H
 refine Y.st 0 H rfl (cA rfl) rfl ?_
 clear H; intro w H; try simp only [List.set_cons_zero, List.set_cons_succ, putL, Nat.zero_add] at H
 refine Y.z <| Y.qr <| Y.v (Y.o H 0 rfl rfl) <| Y.v (Ev.build (bld_40_1 rfl)) <| Y.v (Ev.build (bld_42_1_2 rfl rfl)) <| OPS.buildSlice rfl rfl rfl rfl (bsl_25_1_0 rfl) H ?_
 clear H; intro g12 w H
 refine Y.v (Ev.mvS rfl) <| Y.v (Ev.build (bld_28_0_1_2 rfl rfl rfl)) <| Y.st 3 H rfl (cA rfl) rfl ?_
 clear H; intro w H; try simp only [List.set_cons_zero, List.set_cons_succ, putL, Nat.zero_add] at H
 refine Y.z ?_
 refine WP.ret ⟨[_], ⟨(by exact resCellA 3 H rfl (agg_run rfl) (size_run rfl) (by rfl) rfl), trivial⟩, ?_⟩
 exact ⟨g7, g12, rfl, H.reidx [2, 0] (by decide) rfl⟩
theorem r44Short (s b : Int) (AU AV : Option Addr) (nu cu nv cv : Nat) (w0 : World) : Calls Try.prog 15 #[.agg (bndL s b AU nu cu AV nv cv).toArray] w0 fun e w' => e = .returned (.bool (decide (nu ≤ 50) && decide (nv ≤ 50))) ∧ Below w0.heap.size w0 w' := by
 have H := SH.refl w0
 refine Calls.ofWP Try.func15 rfl Try.results15 Try.ntmps15 rfl <| Y.qr <| Y.bx (cA rfl) H ?_
 clear H; intro g1 w H
 refine Y.v (Ev.asB rfl) <| Y.z <| Y.qr <| Y.v (Y.f rfl rfl) <| Y.v (Y.l H 0 rfl rfl rfl) <| Y.v (Y.n rfl) <| Y.v (Ev.leq rfl rfl) <| Y.v (Ev.mvB rfl) <| Y.g rfl rfl (fun hg => Y.f rfl rfl) <| Y.g rfl rfl (fun hg => Ev.load1 (agg_run rfl) (gvE hg rfl) (H.ldL 0 rfl _ rfl)) <| Y.g rfl rfl (fun hg => Ev.len (el_run rfl) (gvE hg rfl)) <| Y.g rfl rfl (fun hg => Ev.leq (gvE hg rfl) rfl) <| Y.v (Ev.pickAnd rfl rfl rfl) <| Y.v (Ev.asB rfl) <| Y.z ?_
 refine WP.ret ⟨_, rfl, ?_⟩
 have h1 : decide ((nu : Int) ≤ 50) = decide (nu ≤ 50) := decide_eq_decide.2 (by omega)
 have h2 : decide ((nv : Int) ≤ 50) = decide (nv ≤ 50) := decide_eq_decide.2 (by omega)
 exact ⟨by rw [← h1, ← h2]; rfl, H.below⟩
theorem nightX {w0 w : World} {S : List Nat} {L : List Blk} {a b c : Nat} {ns : List Need} (H : SH w0 S w [⟨a, 44, xbL.flatMap edgCells⟩, ⟨b, 42, xbT.flatMap truckCells⟩]) (H2 : SH w0 S w L) (i : Nat) (hi : L[i]? = some ⟨c, 48, ns.flatMap needCells⟩) :
  NightAt w (some ⟨a, 0, none⟩) (some ⟨b, 0, none⟩) (some ⟨c, 0, none⟩) xbL xbT ns ns.length :=
 ⟨rowsOwn' (enc := edgCells) (sz := 3) (l := xbL) (fun _ => rfl) H 0 rfl, rowsOwn' (enc := truckCells) (sz := 4) (l := xbT) (fun _ => rfl) H 1 rfl, rowsOwn' (enc := needCells) (sz := 2) (l := ns) (fun _ => rfl) H2 i hi, Nat.le_refl _⟩
section
variable (a b c : Nat) (w0 : World)
theorem xbFind1 (h : NightAt w0 (some ⟨a, 0, none⟩) (some ⟨b, 0, none⟩) (some ⟨c, 0, none⟩) xbL xbT xb1 2) : Calls Try.prog 11 #[.agg (xbCells a b (some ⟨c, 0, none⟩) 2 2).toArray] w0 fun e w' => ∃ (us vs : List Int) (AU AV : Option Addr) (cu cv : Nat) (L : List Blk),
   e = .returned (.tuple #[.agg (bndL 150 3 AU us.length cu AV vs.length cv).toArray, I 0]) ∧ ProvedP 3 xbL xbT xb1 0 150 3 us vs ∧ Reads L (fun w => IntsAt w AU us ∧ IntsAt w AV vs) ∧ SH w0 [] w' L := by
 refine (boundFind 3 0 _ _ _ xbL xbT xb1 3 1 2 w0 h).mono fun e w' ⟨s, b, us, vs, AU, AV, cu, cv, L, h1, h2, h3, h4⟩ => ?_
 rw [xbE1] at h1
 have hp := h2.proved xbE1
 obtain ⟨rfl, rfl⟩ := xbR1 h2
 exact ⟨us, vs, AU, AV, cu, cv, L, h1, hp, h3, h4⟩
theorem xbFind2 (h : NightAt w0 (some ⟨a, 0, none⟩) (some ⟨b, 0, none⟩) (some ⟨c, 0, none⟩) xbL xbT xb2 2) : Calls Try.prog 11 #[.agg (xbCells a b (some ⟨c, 0, none⟩) 2 2).toArray] w0 fun e w' => ∃ (s b : Int) (nu nv : Nat) (AU AV : Option Addr) (cu cv : Nat),
   e = .returned (.tuple #[.agg (bndL s b AU nu cu AV nv cv).toArray, I 10]) ∧ Below w0.heap.size w0 w' := by
 refine (boundFind 3 0 _ _ _ xbL xbT xb2 3 1 2 w0 h).mono fun e w' ⟨s, b, us, vs, AU, AV, cu, cv, L, h1, h2, h3, h4⟩ => ?_
 rw [xbE2] at h1
 exact ⟨s, b, _, _, AU, AV, cu, cv, h1, h4.below⟩
theorem xbFind3 (h : NightAt w0 (some ⟨a, 0, none⟩) (some ⟨b, 0, none⟩) (some ⟨c, 0, none⟩) xbL xbT xb3 1) : Calls Try.prog 11 #[.agg (xbCells a b (some ⟨c, 0, none⟩) 1 1).toArray] w0 fun e w' => ∃ (b : Int) (nu nv : Nat) (AU AV : Option Addr) (cu cv : Nat),
   e = .returned (.tuple #[.agg (bndL 0 b AU nu cu AV nv cv).toArray, I 0]) ∧ Below w0.heap.size w0 w' := by
 refine (boundFind 3 0 _ _ _ xbL xbT xb3 3 1 1 w0 h).mono fun e w' ⟨s, b, us, vs, AU, AV, cu, cv, L, h1, h2, h3, h4⟩ => ?_
 rw [xbE3] at h1
 obtain rfl := xbR3 h2
 exact ⟨b, _, _, AU, AV, cu, cv, h1, h4.below⟩
theorem xbFind4 (h : NightAt w0 (some ⟨a, 0, none⟩) (some ⟨b, 0, none⟩) (some ⟨c, 0, none⟩) xbL xbT xb4 3) : Calls Try.prog 11 #[.agg (xbCells a b (some ⟨c, 0, none⟩) 3 3).toArray] w0 fun e w' => ∃ (b : Int) (nu nv : Nat) (AU AV : Option Addr) (cu cv : Nat),
   e = .returned (.tuple #[.agg (bndL 100 b AU nu cu AV nv cv).toArray, I 0]) ∧ Below w0.heap.size w0 w' := by
 refine (boundFind 3 0 _ _ _ xbL xbT xb4 3 1 3 w0 h).mono fun e w' ⟨s, b, us, vs, AU, AV, cu, cv, L, h1, h2, h3, h4⟩ => ?_
 rw [xbE4] at h1
 obtain rfl := xbR4 h2
 exact ⟨b, _, _, AU, AV, cu, cv, h1, h4.below⟩
end
theorem provedT (n hd s b : Int) (A B C AU AV : Option Addr) (l : List Edg) (ts : List Truck) (ns : List Need) (us vs : List Int) (ca cb cc cu cv : Nat) (w0 : World) (hN : NightAt w0 A B C l ts ns cc) (hU : IntsAt w0 AU us) (hV : IntsAt w0 AV vs) (hp : ProvedP n l ts ns hd s b us vs) :
  Calls Try.prog 14 #[.agg #[I n, .slice A l.length ca, .slice B ts.length cb, .slice C ns.length cc, I hd], .agg (bndL s b AU us.length cu AV vs.length cv).toArray] w0 fun e w' => e = .returned (.bool true) ∧ Below w0.heap.size w0 w' := by
 have h16 : us.length ≤ 1000 ∧ vs.length ≤ 1000 := by
  have h0 : nightErr n l ts ns hd = 0 := by
   have := hp.err
   unfold findErr at this
   split at this
   ·rename_i h; exact absurd this h
   ·rename_i h; simpa using h
  obtain ⟨m, _, hK⟩ := nightOk_of h0
  have h1 := hp.un.2
  have h2 := hp.vn.2
  have hl1 : (colN ns).length ≤ ns.length := List.length_filter_le _ _
  have hl2 : (briN ns).length ≤ ns.length := List.length_filter_le _ _
  have := hK.nl
  omega
 exact (boundProved n hd s b A B C AU AV l ts ns us vs ca cb cc cu cv w0 hN hU hV h16.1 h16.2).mono fun e w' ⟨r, h1, h2, h3⟩ => ⟨by rw [h1, h2.2 hp], h3⟩
theorem provedF (n hd s b : Int) (A B C AU AV : Option Addr) (l : List Edg) (ts : List Truck) (ns : List Need) (us vs : List Int) (ca cb cc cu cv : Nat) (w0 : World) (hN : NightAt w0 A B C l ts ns cc) (hU : IntsAt w0 AU us) (hV : IntsAt w0 AV vs) (h1 : us.length ≤ 1000) (h2 : vs.length ≤ 1000) (hp : ¬ ProvedP n l ts ns hd s b us vs) :
  Calls Try.prog 14 #[.agg #[I n, .slice A l.length ca, .slice B ts.length cb, .slice C ns.length cc, I hd], .agg (bndL s b AU us.length cu AV vs.length cv).toArray] w0 fun e w' => e = .returned (.bool false) ∧ Below w0.heap.size w0 w' :=
 (boundProved n hd s b A B C AU AV l ts ns us vs ca cb cc cu cv w0 hN hU hV h1 h2).mono fun e w' ⟨r, h1, h2, h3⟩ => ⟨by
  have : r = false := by cases r with | false => rfl | true => exact absurd (h2.1 rfl) hp
  rw [h1, this], h3⟩
end Go.Proofs.Ytgjfjbphngamgaa

/-
 Walk: awake.
-/
set_option linter.all false
namespace Go.Proofs.Ytgjfjbphngamgaa
open Go Go.W Go.RowKit
theorem sl2 {x y : Blk} {X : List Blk} : ([x, y] : List Blk).Sublist (x :: y :: X) := List.Sublist.cons_cons _ (List.Sublist.cons_cons _ (List.nil_sublist _))
theorem c7 {X Y : List Blk} (h : X.Sublist Y) {a b c d e f g : Blk} : X.Sublist (a :: b :: c :: d :: e :: f :: g :: Y) := ((((((h.cons _).cons _).cons _).cons _).cons _).cons _).cons _
theorem c9 {X Y : List Blk} (h : X.Sublist Y) {a b c d e f g i j : Blk} : X.Sublist (a :: b :: c :: d :: e :: f :: g :: i :: j :: Y) := c7 ((h.cons _).cons _)
set_option maxRecDepth 20000 in
set_option maxHeartbeats 4000000 in
theorem lawAwakeB (w0 : World) : Calls Try.prog 10 #[] w0 fun e w' => e = .returned (.bool true) ∧ Below w0.heap.size w0 w' := by
 have H := SH.refl w0
 refine Calls.ofWP Try.func10 rfl Try.results10 Try.ntmps10 rfl <| Y.qr <| Y.v (Ev.asB rfl) <| Y.z <| Y.qr <| Y.v (Ev.build (bld_48_0_1 rfl rfl)) <| Y.v (Ev.build (bld_48_1 rfl)) <| OPS.buildSlice rfl rfl rfl rfl (bsl_26_2_0_1 rfl rfl) H ?_
 clear H; intro g13 w H
 refine OPS.call (d := some 14) rfl rfl rfl (EvC.func (fun_run rfl)) (lawExample (some ⟨g13, 0, none⟩) 2 2 w) ?_
 rintro _ w ⟨ga, gb, rfl, Hc⟩
 refine ⟨_, rfl, ?_⟩
 replace H := SH.call (Lv := []) (by rw [List.append_nil]; exact H) Hc
 clear Hc
 refine Y.al H rfl rfl ?_
 clear H; intro g1 w H
 refine OPS.store 0 _ rfl rfl rfl (size_run rfl) rfl (cA rfl) rfl rfl H rfl (by simp) ?_
 clear H; intro w H; try simp only [List.set_cons_zero, List.set_cons_succ, putL, Nat.zero_add] at H
 refine Y.z ?_
 replace H : SH w0 [] w [⟨g1, 28, xbCells ga gb (some ⟨g13, 0, none⟩) 2 2⟩, ⟨g13, 48, xb1.flatMap needCells⟩, ⟨ga, 44, xbL.flatMap edgCells⟩, ⟨gb, 42, xbT.flatMap truckCells⟩] := H
 refine Y.qr <| Y.v (Y.o H 0 rfl rfl) <| OPS.call (d := some 17) rfl rfl rfl (EvC.func (fun_run rfl)) (xbFind1 ga gb g13 w (nightX (H.drop ((sl2.cons _).cons _)) H 1 rfl)) ?_
 rintro _ w ⟨us, vs, AU, AV, cu, cv, L1, rfl, hp1, hrd1, Hc⟩
 refine ⟨_, rfl, ?_⟩
 replace H := SH.call (Lv := []) (by rw [List.append_nil]; exact H) Hc
 clear Hc
 refine Y.v (Ev.mvT rfl) <| Y.v (Ev.extract rfl rfl) <| Y.v (Ev.extract rfl rfl) <| Y.al H rfl rfl ?_
 clear H; intro g2 w H
 refine OPS.store 0 _ rfl rfl rfl (size_run rfl) rfl (cA rfl) rfl rfl H rfl (by simp) ?_
 clear H; intro w H; try simp only [List.set_cons_zero, List.set_cons_succ, putL, Nat.zero_add] at H
 refine Y.v (Ev.asI rfl) <| Y.z <| Y.qr <| Y.v (Ev.build (bld_48_0_1 rfl rfl)) <| Y.v (Ev.build (bld_48_1 rfl)) <| OPS.buildSlice rfl rfl rfl rfl (bsl_26_2_0_1 rfl rfl) H ?_
 clear H; intro g23 w H
 refine OPS.call (d := some 24) rfl rfl rfl (EvC.func (fun_run rfl)) (lawExample (some ⟨g23, 0, none⟩) 2 2 w) ?_
 rintro _ w ⟨a3, b3, rfl, Hc⟩
 refine ⟨_, rfl, ?_⟩
 replace H := SH.call (Lv := []) (by rw [List.append_nil]; exact H) Hc
 clear Hc
 refine OPS.call (d := some 25) rfl rfl rfl (EvC.func (fun_run rfl)) (xbFind2 a3 b3 g23 w (nightX (H.drop (List.sublist_append_right _ _)) H 0 rfl)) ?_
 rintro _ w ⟨s3, bb3, nu3, nv3, AU3, AV3, cu3, cv3, rfl, hb⟩
 refine ⟨_, rfl, ?_⟩
 replace H := H.toBelow hb; clear hb
 replace H := H.drop ((List.sublist_cons_self _ _).trans (List.sublist_append_left _ _))
 refine Y.v (Ev.mvT rfl) <| Y.v (Ev.extract rfl rfl) <| Y.v (Ev.extract rfl rfl) <| Y.al H rfl rfl ?_
 clear H; intro g4 w H
 refine OPS.store 0 _ rfl rfl rfl (size_run rfl) rfl (cA rfl) rfl rfl H rfl (by simp) ?_
 clear H; intro w H; try simp only [List.set_cons_zero, List.set_cons_succ, putL, Nat.zero_add] at H
 refine Y.v (Ev.asI rfl) <| Y.z ?_
 replace H := H.drop (List.sublist_cons_self _ _)
 refine Y.qr <| Y.v (Ev.build (bld_48_0_1 rfl rfl)) <| OPS.buildSlice rfl rfl rfl rfl (bsl_26_1_0 rfl) H ?_
 clear H; intro g30 w H
 refine OPS.call (d := some 31) rfl rfl rfl (EvC.func (fun_run rfl)) (lawExample (some ⟨g30, 0, none⟩) 1 1 w) ?_
 rintro _ w ⟨a4, b4, rfl, Hc⟩
 refine ⟨_, rfl, ?_⟩
 replace H := SH.call (Lv := []) (by rw [List.append_nil]; exact H) Hc
 clear Hc
 refine OPS.call (d := some 32) rfl rfl rfl (EvC.func (fun_run rfl)) (xbFind3 a4 b4 g30 w (nightX (H.drop (List.sublist_append_right _ _)) H 0 rfl)) ?_
 rintro _ w ⟨bb4, nu4, nv4, AU4, AV4, cu4, cv4, rfl, hb⟩
 refine ⟨_, rfl, ?_⟩
 replace H := H.toBelow hb; clear hb
 replace H := H.drop ((List.sublist_cons_self _ _).trans (List.sublist_append_left _ _))
 refine Y.v (Ev.mvT rfl) <| Y.v (Ev.extract rfl rfl) <| Y.v (Ev.extract rfl rfl) <| Y.al H rfl rfl ?_
 clear H; intro g6 w H
 refine OPS.store 0 _ rfl rfl rfl (size_run rfl) rfl (cA rfl) rfl rfl H rfl (by simp) ?_
 clear H; intro w H; try simp only [List.set_cons_zero, List.set_cons_succ, putL, Nat.zero_add] at H
 refine Y.v (Ev.asI rfl) <| Y.z <| Y.qr <| Y.v (Ev.build (bld_48_0_1 rfl rfl)) <| Y.v (Ev.build (bld_48_1 rfl)) <| Y.v (Ev.build (bld_48_0_1 rfl rfl)) <| OPS.buildSlice rfl rfl rfl rfl (bsl_26_3_0_1_2 rfl rfl rfl) H ?_
 clear H; intro g38 w H
 refine OPS.call (d := some 39) rfl rfl rfl (EvC.func (fun_run rfl)) (lawExample (some ⟨g38, 0, none⟩) 3 3 w) ?_
 rintro _ w ⟨a5, b5, rfl, Hc⟩
 refine ⟨_, rfl, ?_⟩
 replace H := SH.call (Lv := []) (by rw [List.append_nil]; exact H) Hc
 clear Hc
 refine Y.al H rfl rfl ?_
 clear H; intro g8 w H
 refine OPS.store 0 _ rfl rfl rfl (size_run rfl) rfl (cA rfl) rfl rfl H rfl (by simp) ?_
 clear H; intro w H; try simp only [List.set_cons_zero, List.set_cons_succ, putL, Nat.zero_add] at H
 refine Y.z <| Y.qr <| Y.v (Y.o H 0 rfl rfl) <| OPS.call (d := some 42) rfl rfl rfl (EvC.func (fun_run rfl)) (xbFind4 a5 b5 g38 w (nightX (H.drop ((List.sublist_append_right _ _).cons _)) H 1 rfl)) ?_
 rintro _ w ⟨bb6, nu6, nv6, AU6, AV6, cu6, cv6, rfl, hb⟩
 refine ⟨_, rfl, ?_⟩
 replace H := H.toBelow hb; clear hb
 refine Y.v (Ev.mvT rfl) <| Y.v (Ev.extract rfl rfl) <| Y.v (Ev.extract rfl rfl) <| Y.al H rfl rfl ?_
 clear H; intro g9 w H
 refine OPS.store 0 _ rfl rfl rfl (size_run rfl) rfl (cA rfl) rfl rfl H rfl (by simp) ?_
 clear H; intro w H; try simp only [List.set_cons_zero, List.set_cons_succ, putL, Nat.zero_add] at H
 refine Y.v (Ev.asI rfl) <| Y.z <| Y.q <| Y.qr <| Y.v (Y.m rfl) <| Y.v (Ev.neq rfl rfl) <| Y.v (Ev.mvB rfl) <| Y.g rfl rfl (fun hg => Y.m rfl) <| Y.g rfl rfl (fun hg => Ev.neq (gvE hg rfl) rfl) <| Y.v (Ev.pickOr rfl rfl rfl) <| Y.v (Ev.mvB rfl) <| Y.g rfl rfl (fun hg => Y.m rfl) <| Y.g rfl rfl (fun hg => Ev.neq (gvE hg rfl) rfl) <| Y.v (Ev.pickOr rfl rfl rfl) <| Y.v (Ev.mvB rfl) <| Y.g rfl rfl (fun hg => Y.m rfl) <| Y.g rfl rfl (fun hg => Ev.neq (gvE hg rfl) rfl) <| Y.v (Ev.pickOr rfl rfl rfl) <| Y.v (Ev.mvB rfl) <| Y.g rfl rfl (fun hg => Y.f rfl rfl) <| Y.g rfl rfl (fun hg => Ev.load1 (agg_run rfl) (gvE hg rfl) (H.ldL 4 rfl _ rfl)) <| Y.g rfl rfl (fun hg => Ev.neq (gvE hg rfl) rfl) <| Y.v (Ev.pickOr rfl rfl rfl) <| Y.v (Ev.mvB rfl) <| Y.g rfl rfl (fun hg => Y.f rfl rfl) <| Y.g rfl rfl (fun hg => Ev.load1 (agg_run rfl) (gvE hg rfl) (H.ldL 4 rfl _ rfl)) <| Y.g rfl rfl (fun hg => Ev.neq (gvE hg rfl) rfl) <| Y.v (Ev.pickOr rfl rfl rfl) <| Y.v (Ev.mvB rfl) <| Y.g rfl rfl (fun hg => Y.f rfl rfl) <| Y.g rfl rfl (fun hg => Ev.load1 (agg_run rfl) (gvE hg rfl) (H.ldL 3 rfl _ rfl)) <| Y.g rfl rfl (fun hg => Ev.neq (gvE hg rfl) rfl) <| Y.v (Ev.pickOr rfl rfl rfl) <| Y.v (Ev.mvB rfl) <| Y.g rfl rfl (fun hg => Y.f rfl rfl) <| Y.g rfl rfl (fun hg => Ev.load1 (agg_run rfl) (gvE hg rfl) (H.ldL 0 rfl _ rfl)) <| Y.g rfl rfl (fun hg => Ev.neq (gvE hg rfl) rfl) <| Y.v (Ev.pickOr rfl rfl rfl) <| Y.z ?_
 refine WP.cond rfl (fun hc7 => ?_) (fun hc7 => ?_)
 ·refine Y.qr <| Y.v (Ev.asB rfl) <| Y.z ?_
  refine WP.ret ⟨_, rfl, ?_⟩
  exact absurd hc7 (by decide)
 refine Y.k <| Y.q ?_
 simp only [List.cons_append, List.nil_append] at H
 obtain ⟨LX, hLX⟩ : ∃ LX, LX = L1 ++ [(⟨a5, 44, xbL.flatMap edgCells⟩ : Blk), ⟨b5, 42, xbT.flatMap truckCells⟩] := ⟨_, rfl⟩
 have hs1 : L1.Sublist LX := by rw [hLX]; exact List.sublist_append_left _ _
 have hs2 : ([⟨a5, 44, xbL.flatMap edgCells⟩, ⟨b5, 42, xbT.flatMap truckCells⟩] : List Blk).Sublist LX := by rw [hLX]; exact List.sublist_append_right _ _
 rw [← hLX] at H
 clear hLX
 refine Y.r <| Y.v (Y.o H 5 rfl rfl) <| Y.v (Y.o H 4 rfl rfl) ?_
 have hUV := hrd1.at H (c9 hs1)
 refine OPS.call (d := some 81) rfl rfl rfl (EvC.func (fun_run rfl)) (provedT 3 0 150 3 _ _ _ AU AV xbL xbT xb1 us vs 3 1 2 cu cv w (nightX (H.drop (c7 sl2)) H 6 rfl) hUV.1 hUV.2 hp1) ?_
 rintro _ w ⟨rfl, hb⟩
 refine ⟨_, rfl, ?_⟩
 replace H := H.toBelow hb; clear hb
 refine Y.v (Ev.mvB rfl) <| OPS.gyes rfl rfl rfl rfl <| Y.v (Y.o H 5 rfl rfl) <| OPS.gyes rfl rfl rfl rfl <| OPS.buildSlice rfl rfl rfl rfl (bsl_31_1_0 rfl) H ?_
 clear H; intro g84 w H
 refine OPS.gyes rfl rfl rfl rfl <| OPS.buildSlice rfl rfl rfl rfl (bsl_31_1_0 rfl) H ?_
 clear H; intro g85 w H
 refine OPS.gyes rfl rfl rfl rfl <| Y.v (Ev.build (bld_33_0_1_2_3 rfl rfl rfl rfl)) <| OPS.gyes rfl rfl rfl rfl <| OPS.call (d := some 87) rfl rfl rfl (EvC.func (fun_run rfl)) (provedT 3 0 150 3 _ _ _ (some ⟨g84, 0, none⟩) (some ⟨g85, 0, none⟩) xbL xbT xb1 [0] [200] 3 1 2 1 1 w (nightX (H.drop (((c7 sl2).cons _).cons _)) H 8 rfl) (onesOwn (l := [0]) H 1 rfl) (onesOwn (l := [200]) H 0 rfl) xbP1) ?_
 rintro _ w ⟨rfl, hb⟩
 refine ⟨_, rfl, ?_⟩
 replace H := (H.toBelow hb).drop ((List.sublist_cons_self _ _).trans (List.sublist_cons_self _ _))
 clear hb
 refine Y.v (Ev.pickT (v := .bool true) rfl rfl rfl) <| Y.v (Ev.mvB rfl) <| OPS.gyes rfl rfl rfl rfl <| Y.v (Y.o H 5 rfl rfl) <| OPS.gyes rfl rfl rfl rfl <| OPS.buildSlice rfl rfl rfl rfl (bsl_31_1_0 rfl) H ?_
 clear H; intro g91 w H
 refine OPS.gyes rfl rfl rfl rfl <| OPS.buildSlice rfl rfl rfl rfl (bsl_31_1_0 rfl) H ?_
 clear H; intro g92 w H
 refine OPS.gyes rfl rfl rfl rfl <| Y.v (Ev.build (bld_33_0_1_2_3 rfl rfl rfl rfl)) <| OPS.gyes rfl rfl rfl rfl <| OPS.call (d := some 94) rfl rfl rfl (EvC.func (fun_run rfl)) (provedF 3 0 151 3 _ _ _ (some ⟨g91, 0, none⟩) (some ⟨g92, 0, none⟩) xbL xbT xb1 [0] [201] 3 1 2 1 1 w (nightX (H.drop (((c7 sl2).cons _).cons _)) H 8 rfl) (onesOwn (l := [0]) H 1 rfl) (onesOwn (l := [201]) H 0 rfl) (by decide) (by decide) xbP2) ?_
 rintro _ w ⟨rfl, hb⟩
 refine ⟨_, rfl, ?_⟩
 replace H := (H.toBelow hb).drop ((List.sublist_cons_self _ _).trans (List.sublist_cons_self _ _))
 clear hb
 refine OPS.gyes rfl rfl rfl rfl <| Y.v (Ev.not rfl) <| Y.v (Ev.pickT (v := .bool true) rfl rfl rfl) <| Y.v (Ev.mvB rfl) <| OPS.gyes rfl rfl rfl rfl <| Y.v (Y.o H 1 rfl rfl) <| OPS.gyes rfl rfl rfl rfl <| OPS.buildSlice rfl rfl rfl rfl (bsl_31_2_0_1 rfl rfl) H ?_
 clear H; intro g99 w H
 refine OPS.gyes rfl rfl rfl rfl <| OPS.buildSlice rfl rfl rfl rfl (bsl_31_1_0 rfl) H ?_
 clear H; intro g100 w H
 refine OPS.gyes rfl rfl rfl rfl <| Y.v (Ev.build (bld_33_0_1_2_3 rfl rfl rfl rfl)) <| OPS.gyes rfl rfl rfl rfl <| OPS.call (d := some 102) rfl rfl rfl (EvC.func (fun_run rfl)) (provedT 3 0 100 3 _ _ _ (some ⟨g99, 0, none⟩) (some ⟨g100, 0, none⟩) xbL xbT xb4 [0, 100] [200] 3 1 3 2 1 w (nightX (H.drop (((c9 hs2).cons _).cons _)) H 4 rfl) (onesOwn (l := [0, 100]) H 1 rfl) (onesOwn (l := [200]) H 0 rfl) xbP4) ?_
 rintro _ w ⟨rfl, hb⟩
 refine ⟨_, rfl, ?_⟩
 replace H := H.toBelow hb
 clear hb
 refine Y.v (Ev.pickT (v := .bool true) rfl rfl rfl) <| Y.v (Ev.asB rfl) <| Y.z ?_
 refine WP.ret ⟨_, rfl, ?_⟩
 exact ⟨rfl, H.below⟩
end Go.Proofs.Ytgjfjbphngamgaa

/-
 The laws BoundBest, BoundNeeds.
-/
set_option linter.all false
namespace Go.Proofs.Ytgjfjbphngamgaa
open Go Go.W Go.RowKit
/-! ### a further need that brings -/
theorem findErr_night {n hd : Int} {l : List Edg} {ts : List Truck} {ns : List Need} (h : findErr n l ts ns hd = 0) : ∃ m : Nat, n = m ∧ NightOk m l ts ns hd ∧ emptyB (capL ts) (movC ns).sum (movD ns).sum = false ∧ Flo.Hall (movC ns) (movD ns) (timL m l ns) := by
 unfold findErr at h
 split at h
 ·rename_i h1; exact absurd h h1
 ·rename_i h1
  obtain ⟨m, rfl, hK⟩ := nightOk_of (by simpa using h1)
  unfold solveErr at h
  split at h
  ·cases h
  ·rename_i h2
   split at h
   ·rename_i h3; exact ⟨m, rfl, hK, by simpa using h2, by simpa using h3⟩
   ·cases h
end Go.Proofs.Ytgjfjbphngamgaa

/-
 The law BoundSound.
-/
set_option linter.all false
namespace Go.Proofs.Ytgjfjbphngamgaa
open Go Go.W Go.RowKit
open Classical in
theorem boundProvedD (n hd s b : Int) (A B C AU AV : Option Addr) (l : List Edg) (ts : List Truck) (ns : List Need) (us vs : List Int) (ca cb cc cu cv : Nat) (w0 : World) (hN : NightAt w0 A B C l ts ns cc) (hU : IntsAt w0 AU us) (hV : IntsAt w0 AV vs) (hul : us.length ≤ 1000) (hvl : vs.length ≤ 1000) :
  Calls Try.prog 14 #[.agg #[I n, .slice A l.length ca, .slice B ts.length cb, .slice C ns.length cc, I hd], .agg (bndL s b AU us.length cu AV vs.length cv).toArray] w0 fun e w' => e = .returned (.bool (decide (ProvedP n l ts ns hd s b us vs))) ∧ Below w0.heap.size w0 w' :=
 (boundProved n hd s b A B C AU AV l ts ns us vs ca cb cc cu cv w0 hN hU hV hul hvl).mono fun e w' ⟨r, h1, h2, h3⟩ => by
  refine ⟨?_, h3⟩
  rw [h1]
  have h : r = decide (ProvedP n l ts ns hd s b us vs) := by
   cases r with
   | true => exact (decide_eq_true (h2.1 rfl)).symm
   | false => exact (decide_eq_false fun hp => by have := h2.2 hp; simp at this).symm
  rw [h]
theorem FindRet.short {n hd s b : Int} {l : List Edg} {ts : List Truck} {ns : List Need} {us vs : List Int} (h : FindRet n l ts ns hd s b us vs) : us.length ≤ 1000 ∧ vs.length ≤ 1000 := by
 by_cases he : findErr n l ts ns hd = 0
 ·have hp := h.proved he
  obtain ⟨m, rfl, hK, _, _⟩ := findErr_night he
  have h1 : (colN ns).length ≤ ns.length := List.length_filter_le _ _
  have h2 : (briN ns).length ≤ ns.length := List.length_filter_le _ _
  have := hK.nl
  have := hp.un.2
  have := hp.vn.2
  omega
 ·obtain ⟨_, _, rfl, rfl⟩ := h.bad he
  simp
end Go.Proofs.Ytgjfjbphngamgaa

/-
 Walks: the reference's capacity, divided, ranged, sum.
-/
set_option linter.all false
namespace Go.Proofs.Ytgjfjbphngamgaa
open Go Go.W Go.RowKit
theorem r44Divided (t c : Int) (w0 : World) (ht : -1000000000000000000 ≤ t ∧ t ≤ 1000000000000000000) (hc : 1 ≤ c ∧ c ≤ 1000000) :
  Calls Try.prog 24 #[I t, I c] w0 fun e w' => e = .returned (I (divI t c)) ∧ Below w0.heap.size w0 w' := by
 have H := SH.refl w0
 refine Calls.ofWP Try.func24 rfl Try.results24 Try.ntmps24 rfl <| Y.qr <| Y.v (Ev.asI rfl) <| Y.z <| Y.q <| Y.qr <| Y.v (Y.m rfl) <| Y.v (Ev.leq rfl rfl) <| Y.z ?_
 refine WP.cond rfl (fun hc1 => ?_) (fun hc1 => ?_)
 ·refine Y.qr <| Y.v (Ev.asI rfl) <| Y.z ?_
  refine WP.ret ⟨_, rfl, ?_⟩
  exact ⟨by rw [divI, if_pos (by simpa using hc1)]; rfl, H.below⟩
 have ht1 : 0 < t := by simp at hc1; omega
 refine Y.k <| Y.qr <| Y.v (Y.m rfl) <| Y.v (Y.m rfl) <| Y.v (Y.p rfl rfl) <| Y.v (Y.s rfl rfl) <| Y.v (Y.m rfl) <| Y.v (Ev.quo rfl rfl (by omega) (by omega) (by omega)) <| Y.v (Ev.asI rfl) <| Y.z ?_
 refine WP.ret ⟨_, rfl, ?_⟩
 exact ⟨by rw [divI, if_neg (by omega)]; rfl, H.below⟩
theorem r44Ranged (A : Option Addr) (l : List Int) (cap : Nat) (w0 : World) (hz : IntsAt w0 A l) (hl : l.length ≤ 1000) :
  Calls Try.prog 29 #[.slice A l.length cap] w0 fun e w' => e = .returned (.bool (rngB l)) ∧ Below w0.heap.size w0 w' := by
 have H := SH.refl w0
 refine Calls.ofWP Try.func29 rfl Try.results29 Try.ntmps29 rfl <| Y.qr <| Y.v (Ev.asB rfl) <| Y.z <| Y.q <| Y.qr <| Y.v (Ev.asI rfl) <| Y.z <| WP.block <| WP.loop [2, 3, 4, 5, 6, 7, 8, 9, 10, 11, 12, 13, 14, 15, 16, 17, 18, 19, 20, 21] (fun k e w' => ∃ j : Nat, j + k = l.length ∧ e 3 = I j ∧ (∀ i (hi : i < l.length), i < j → 0 ≤ l[i] ∧ l[i] ≤ 1125899906842624) ∧ SH w0 [] w' []) (l.length) (⟨0, by omega, rfl, (fun i _ h => absurd h (by omega)), H⟩) ?_
 clear H
 rintro q u w ⟨j, hq, h3, hall, H⟩
 refine WP.know (t := 3) h3 <| Y.q <| Y.qr <| Y.v (Y.m rfl) <| Y.v (Ev.mvS rfl) <| Y.v (Y.n rfl) <| Y.v (Ev.lss rfl rfl) <| Y.z ?_
 refine WP.cond rfl (fun hc2 => ?_) (fun hc2 => ?_)
 ·have hlt : j < l.length := by simpa using hc2
  obtain ⟨b, o, rfl, hx⟩ := hz j hlt
  refine Y.k <| Y.q <| WP.block <| Y.qr <| Y.v (Ev.mvS rfl) <| Y.v (Y.m rfl) <| Y.v (Y.x rfl rfl rfl rfl) <| Y.v (Y.c (H.ld0 (by assumption)) rfl) ?_
  refine Y.v (Ev.lss rfl rfl) <| Y.v (Ev.mvB rfl) <| Y.g rfl rfl (fun hg => Ev.mvS rfl) <| Y.g rfl rfl (fun hg => Y.m rfl) <| Y.g rfl rfl (fun hg => Ev.indexAddr1 (el_run rfl) (size_run rfl) (gvE hg rfl) (gvE hg rfl) rfl (by omega)) <| Y.g rfl rfl (fun hg => Ev.load1 (agg_run rfl) (gvE hg rfl) (H.ld0 (by assumption))) ?_
  refine Y.g rfl rfl (fun hg => Ev.gtr (gvE hg rfl) rfl) <| Y.v (Ev.pickOr rfl rfl rfl) <| Y.z ?_
  refine WP.cond rfl (fun hc4 => ?_) (fun hc4 => ?_)
  ·refine Y.qr <| Y.v (Ev.asB rfl) <| Y.z ?_
   refine WP.ret ⟨_, rfl, ?_⟩
   have hb : ¬ (0 ≤ l[j] ∧ l[j] ≤ 1125899906842624) := by simp at hc4; omega
   have : rngB l = false := by
    unfold rngB; rw [List.all_eq_false]
    exact ⟨l[j], List.getElem_mem hlt, by simpa using fun h => Int.not_le.1 fun h2 => hb ⟨h, h2⟩⟩
   exact ⟨by rw [this]; rfl, H.below⟩
  refine Y.k <| Y.r <| Y.v (Y.m rfl) <| Y.v (Y.p rfl rfl) <| Y.v (Ev.asI rfl) <| Y.z ?_
  have hb : 0 ≤ l[j] ∧ l[j] ≤ 1125899906842624 := by simp at hc4; omega
  refine ⟨(by repeat (first | exact Agree.refl _ _ | exact Agree.mix _ _ _ | refine Agree.upd rfl ?_ | refine Agree.mix2 rfl ?_)), q - 1, by omega, j + 1, by omega, rfl, fun i hi hij => ?_, H⟩
  rcases Nat.lt_succ_iff_lt_or_eq.1 hij with h | rfl
  ·exact hall i hi h
  ·exact hb
 refine WP.exit <| XB.hit <| Y.qr <| Y.v (Ev.asB rfl) <| Y.z ?_
 refine WP.ret ⟨_, rfl, ?_⟩
 have hj : j = l.length := by simp at hc2; omega
 have : rngB l = true := by
  unfold rngB; rw [List.all_eq_true]
  intro x hx
  obtain ⟨i, hi, rfl⟩ := List.mem_iff_getElem.1 hx
  have := hall i hi (by omega)
  simp [this]
 exact ⟨by rw [this]; rfl, H.below⟩
end Go.Proofs.Ytgjfjbphngamgaa

/-
 Walks: the reference's side, sum, capacity.
-/
set_option linter.all false
namespace Go.Proofs.Ytgjfjbphngamgaa
open Go Go.W Go.RowKit
def sideN (ns : List Need) (b : Bool) : List Need := if b = true then colN ns else briN ns
theorem sideN_take {ns : List Need} {b : Bool} {j : Nat} (h : j < ns.length) : sideN (ns.take (j + 1)) b = sideN (ns.take j) b ++ if decide (0 < ns[j].move) = b then [ns[j]] else [] := by
 unfold sideN colN briN
 cases b <;> simp only [if_true, Bool.false_eq_true, if_false]
 ·rw [filt_take h]; cases decide (0 < ns[j].move) <;> simp
 ·rw [filt_take h]
theorem sideN_len {ns : List Need} {b : Bool} {j : Nat} : (sideN (ns.take j) b).length ≤ ns.length := by
 unfold sideN colN briN; split <;> exact filt_len
set_option maxHeartbeats 1000000 in
theorem r44Side (n hd : Int) (A B C : Option Addr) (ll tl : Nat) (ns : List Need) (b : Bool) (ca cb cc : Nat) (w0 : World) (hn : RowsAt 2 needCells w0 C ns) (hnl : ns.length ≤ 1000) :
  Calls Try.prog 23 #[.agg #[I n, .slice A ll ca, .slice B tl cb, .slice C ns.length cc, I hd], .bool b] w0 fun e w' => ∃ (S : Option Addr) (k : Nat) (L : List Blk), e = .returned (.slice S (sideN ns b).length k) ∧ OwnS S k (sideN ns b).length ((sideN ns b).flatMap needCells) 48 2 L ∧ SH w0 [] w' L := by
 have H := SH.refl w0
 refine Calls.ofWP Try.func23 rfl Try.results23 Try.ntmps23 rfl <| Y.qr <| Y.bx (cA rfl) H ?_
 clear H; intro g2 w H
 refine Y.v (Ev.asS rfl) <| Y.z <| Y.qr <| Y.v (Ev.asS rfl) <| Y.z <| Y.q <| Y.qr <| Y.v (Ev.asI rfl) <| Y.z <| WP.block ?_
 refine WP.loop [5, 6, 7, 8, 9, 10, 11, 12, 13, 14, 15, 16, 17, 18, 19, 20, 21, 22, 23, 24, 25, 26, 27, 28, 29, 30] (fun k e w' => ∃ (j : Nat) (S : Option Addr) (kc : Nat) (Lc : List Blk), j + k = ns.length ∧ e 6 = I j ∧ e 5 = .slice S (sideN (ns.take j) b).length kc ∧ OwnS S kc (sideN (ns.take j) b).length ((sideN (ns.take j) b).flatMap needCells) 48 2 Lc ∧ SH w0 [] w' ([⟨g2, 28, [I n, .slice A ll ca, .slice B tl cb, .slice C ns.length cc, I hd]⟩] ++ Lc)) (ns.length) (⟨0, none, 0, [], by omega, rfl, (by cases b <;> rfl), (by cases b <;> exact OwnS.nil), H⟩) ?_
 clear H
 rintro k u w ⟨j, S, kc, Lc, hk, h6, h5, hO, H⟩
 refine WP.know (t := 6) h6 (WP.know (t := 5) h5 ?_)
 refine Y.q <| Y.qr <| Y.v (Y.m rfl) <| Y.v (Y.f rfl rfl) <| Y.v (Y.l H 0 rfl rfl rfl) <| Y.v (Y.n rfl) <| Y.v (Ev.lss rfl rfl) <| Y.z ?_
 refine WP.cond rfl (fun hc3 => ?_) (fun hc3 => ?_)
 ·have hlt : j < ns.length := by simpa using hc3
  obtain ⟨bn, o, rfl, hc⟩ := hn j hlt
  have hci : w0.cell? ⟨bn, o + j * 2 + 1, none⟩ = some (I ns[j].move) := hc.2.1
  have hc' := cellsAt_sh H hc
  have hsl := sideN_len (ns := ns) (b := b) (j := j)
  have hst := sideN_take (b := b) hlt
  refine Y.k <| Y.q <| WP.block <| Y.qr <| Y.v (Y.f rfl rfl) <| Y.v (Y.l H 0 rfl rfl rfl) <| Y.v (Y.m rfl) <| Y.v (Y.X rfl rfl rfl rfl rfl) <| Y.v (Y.f rfl rfl) <| Y.v (Y.c (H.ld0 (by assumption)) rfl) ?_
  refine Y.v (Ev.gtr rfl rfl) <| Y.v (Ev.mvB rfl) <| Y.v (Ev.eqlB Try.runUnderlying4 rfl rfl) <| Y.z ?_
  refine WP.cond rfl (fun hc5 => ?_) (fun hc5 => ?_)
  ·have hb : decide (0 < ns[j].move) = b := by simpa using hc5
   rw [if_pos hb] at hst
   have hl : (sideN (ns.take (j + 1)) b).length = (sideN (ns.take j) b).length + 1 := by rw [hst]; simp
   refine Y.r <| Y.v (Ev.mvS rfl) <| Y.v (Y.f rfl rfl) <| Y.v (Y.l H 0 rfl rfl rfl) <| Y.v (Y.m rfl) <| Y.v (Y.X rfl rfl rfl rfl rfl) <| Y.v (Ev.loadN (needCells ns[j]) (agg_run rfl) (size_run rfl) rfl hc') <| OPS.buildSlice rfl rfl rfl rfl (bsl_26_1_0 rfl) H ?_
   clear H; intro g29 w H
   refine OPS.append (m := 1) (news := needCells ns[j]) (R := [⟨g29, 48, [I ns[j].node, I ns[j].move]⟩, ⟨g2, 28, [I n, .slice A ll ca, .slice B tl cb, .slice (some ⟨bn, o, none⟩) ns.length cc, I hd]⟩]) rfl rfl rfl rfl rfl (sl_run rfl) rfl rfl hO rfl (src_own H 0 rfl) rfl (by omega) (by unfold maxLen; omega) H (by exact perm_by fun f => by simp <;> omega) ?_
   clear H hO; intro S kc Lc w hO H
   refine Y.v (Ev.asS rfl) <| Y.z <| Y.r <| Y.v (Y.m rfl) <| Y.v (Y.p rfl rfl) <| Y.v (Ev.asI rfl) <| Y.z ?_
   exact ⟨(by repeat (first | exact Agree.refl _ _ | exact Agree.mix _ _ _ | refine Agree.upd rfl ?_ | refine Agree.mix2 rfl ?_)), k - 1, by omega, j + 1, S, kc, Lc, by omega, rfl, by rw [hl]; rfl, (by rw [hl, hst, List.flatMap_append, List.flatMap_cons, List.flatMap_nil, List.append_nil]; exact hO), H.drop (List.sublist_cons_self _ _)⟩
  have hb : ¬ decide (0 < ns[j].move) = b := by simpa using hc5
  rw [if_neg hb, List.append_nil] at hst
  refine Y.k <| Y.r <| Y.v (Y.m rfl) <| Y.v (Y.p rfl rfl) <| Y.v (Ev.asI rfl) <| Y.z ?_
  exact ⟨(by repeat (first | exact Agree.refl _ _ | exact Agree.mix _ _ _ | refine Agree.upd rfl ?_ | refine Agree.mix2 rfl ?_)), k - 1, by omega, j + 1, S, kc, Lc, by omega, rfl, by rw [hst]; rfl, by rw [hst]; exact hO, H⟩
 refine WP.exit <| XB.hit <| Y.qr <| Y.v (Ev.mvS rfl) <| Y.v (Ev.asS rfl) <| Y.z ?_
 refine WP.ret ⟨_, rfl, ?_⟩
 have hj : j = ns.length := by simp at hc3; omega
 subst hj
 rw [List.take_length] at hO ⊢
 exact ⟨S, kc, Lc, rfl, hO, H.drop (List.sublist_append_right _ _)⟩
end Go.Proofs.Ytgjfjbphngamgaa
