/-
 Walk: the reference's Proved.
-/
import Derived.Test.YtgjfjbphngamgaaFT20
import Derived.Test.YtgjfjbphngamgaaNest
import Derived.Test.YtgjfjbphngamgaaRows
import Derived.Test.YtgjfjbphngamgaaB4
import Derived.Test.YtgjfjbphngamgaaFacts
set_option linter.all false
namespace Go.Proofs.Ytgjfjbphngamgaa
open Go Go.W Go.RowKit
theorem r44SumBri (A : Option Addr) (ns : List Need) (cap : Nat) (w0 : World) (hz : RowsAt 2 needCells w0 A (briN ns)) (hl : (briN ns).length ≤ 1000) (hb : ∀ x ∈ briN ns, -32 ≤ x.move ∧ x.move ≤ 32) :
  Calls Try.prog 26 #[.slice A (briN ns).length cap] w0 fun e w' => e = .returned (I (movD ns).sum) ∧ Below w0.heap.size w0 w' := by
 have h := r44Sum A (briN ns) cap w0 hz hl hb
 rw [sum_bri] at h
 exact h
set_option maxRecDepth 20000 in
set_option maxHeartbeats 4000000 in
theorem r44Proved (n hd s b : Int) (A B C AU AV : Option Addr) (l : List Edg) (ts : List Truck) (ns : List Need) (us vs : List Int) (ca cb cc cu cv : Nat) (w0 : World) (hN : NightAt w0 A B C l ts ns cc) (hU : IntsAt w0 AU us) (hV : IntsAt w0 AV vs) (hul : us.length ≤ 1000) (hvl : vs.length ≤ 1000) :
  Calls Try.prog 13 #[.agg #[I n, .slice A l.length ca, .slice B ts.length cb, .slice C ns.length cc, I hd], .agg (bndL s b AU us.length cu AV vs.length cv).toArray] w0 fun e w' => ∃ r : Bool, e = .returned (.bool r) ∧ (r = true ↔ ProvedP n l ts ns hd s b us vs) ∧ Below w0.heap.size w0 w' := by
 have H := SH.refl w0
 by_cases h0 : findErr n l ts ns hd = 0
 ·obtain ⟨m, rfl, hK, hem, hH⟩ := findErr_night h0
  have hX := trans_ok hK
  have hD := hX.dsum
  have hnl := hK.nl
  have hcap := capL_bd hK
  have hcap1 : 1 ≤ capL ts := by simp [emptyB] at hem; omega
  have hl1 : (colN ns).length ≤ ns.length := List.length_filter_le _ _
  have hl2 : (briN ns).length ≤ ns.length := List.length_filter_le _ _
  have hCl : (movC ns).length = (colN ns).length := by simp [movC]
  have hDl : (movD ns).length = (briN ns).length := by simp [movD]
  have hcm : ∀ x ∈ colN ns, (0 ≤ x.node ∧ x.node < m) ∧ 1 ≤ x.move ∧ x.move ≤ 32 := fun x hx => by
   have h1 := hK.nd x (List.mem_filter.1 hx).1
   have h2 := (List.mem_filter.1 hx).2
   simp at h2
   exact ⟨h1.1, by omega, by omega⟩
  have hbm : ∀ x ∈ briN ns, (0 ≤ x.node ∧ x.node < m) ∧ -32 ≤ x.move ∧ x.move ≤ -1 := fun x hx => by
   have h1 := hK.nd x (List.mem_filter.1 hx).1
   have h2 := (List.mem_filter.1 hx).2
   simp at h2
   exact ⟨h1.1, by omega, by omega⟩
  have hbb : ∀ x ∈ briN ns, -32 ≤ x.move ∧ x.move ≤ 32 := fun x hx => by have := hbm x hx; omega
  have htb : ∀ t ∈ ts, 0 ≤ t.cap ∧ t.cap ≤ 32 := fun t ht => by have := hK.tr t ht; omega
  have htl := hK.tl
  refine Calls.ofWP Try.func13 rfl Try.results13 Try.ntmps13 rfl <| Y.qr <| Y.bx (cA rfl) H ?_
  clear H; intro g2 w H
  refine Y.bx (cA rfl) H ?_
  clear H; intro g3 w H
  refine Y.v (Ev.asB rfl) <| Y.z <| Y.q <| Y.qr <| Y.v (Y.o H 1 rfl rfl) <| OPS.call (d := some 18) rfl rfl rfl (EvC.func (fun_run rfl)) (r44Least m hd A B C l ts ns ca cb cc w (hN.sh H)) ?_
  rintro _ w ⟨t0, er, rfl, hR, hb⟩
  refine ⟨_, rfl, ?_⟩
  replace H := H.toBelow hb; clear hb
  refine Y.v (Ev.mvT rfl) <| Y.v (Ev.extract rfl rfl) <| Y.v (Ev.extract rfl rfl) <| Y.v (Ev.asI rfl) <| Y.v (Ev.asI rfl) <| Y.z <| Y.qr <| Y.v (Y.m rfl) <| Y.v (Ev.neq rfl rfl) <| Y.z ?_
  refine WP.cond rfl (fun hc2 => ?_) (fun hc2 => ?_)
  ·refine Y.qr <| Y.v (Ev.asB rfl) <| Y.z ?_
   refine WP.ret ⟨_, rfl, ?_⟩
   exact absurd hc2 (by rw [hR.err, h0]; decide)
  refine Y.k <| Y.q ?_
  refine WP.rheldC [7, 8, 23, 24, 25, 26] (fun u w' => ∃ (Sc Sb : Option Addr) (kc kb : Nat) (Lc Lb : List Blk), u 7 = .slice Sc (colN ns).length kc ∧ u 8 = .slice Sb (briN ns).length kb ∧ OwnS Sc kc (colN ns).length ((colN ns).flatMap needCells) 48 2 Lc ∧ OwnS Sb kb (briN ns).length ((briN ns).flatMap needCells) 48 2 Lb ∧ SH w0 [] w' ([⟨g3, 33, bndL s b AU us.length cu AV vs.length cv⟩, ⟨g2, 28, [I m, .slice A l.length ca, .slice B ts.length cb, .slice C ns.length cc, I hd]⟩] ++ (Lc ++ Lb))) mixed H ?_ ?_
  ·clear H; intro w hbw4 H
   refine Y.t 0 H rfl rfl (fun w H => Y.o H 1 rfl rfl) <| Y.t 2 H rfl rfl (fun w H => Y.o H 1 rfl rfl) ?_
   refine Y.A [1] rfl ⟨⟨_, rfl, ?_⟩, trivial⟩
   refine OPS.call (d := some 24) rfl rfl rfl (EvC.func (fun_run rfl)) (r44Col m hd A B C l.length ts.length ns ca cb cc _ (hN.n.sh H) (by omega)) ?_
   rintro _ w ⟨Sc, kc, Lc, rfl, hOc, Hc⟩
   refine ⟨_, rfl, ?_⟩
   have Hf := SH.call (Lv := []) (by rw [List.append_nil]; exact H) Hc
   clear H Hc
   have H := Hf.drop (List.sublist_append_left _ _)
   refine Y.z <| ⟨(H), ?_⟩
   refine Y.A [3] rfl ⟨⟨_, rfl, ?_⟩, trivial⟩
   refine OPS.call (d := some 26) rfl rfl rfl (EvC.func (fun_run rfl)) (r44Bri m hd A B C l.length ts.length ns ca cb cc _ (hN.n.sh H) (by omega)) ?_
   rintro _ w ⟨Sb, kb, Lb, rfl, hOb, Hc⟩
   refine ⟨_, rfl, ?_⟩
   replace Hf := SH.call (Lv := []) (by rw [List.append_nil]; exact Hf) Hc
   clear H Hc
   rw [List.append_assoc] at Hf
   have H := Hf.drop (List.sublist_append_left _ _)
   refine Y.z <| ⟨(H), ?_⟩
   refine Y.t 4 H rfl rfl (fun w H => Ev.asS rfl) <| Y.t 5 H rfl rfl (fun w H => Ev.asS rfl) <| OPH.done (by kernel_rfl) ?_
   exact ⟨(by repeat (first | exact Agree.refl _ _ | exact Agree.mix _ _ _ | refine Agree.upd rfl ?_ | refine Agree.mix2 rfl ?_)), Sc, Sb, kc, kb, Lc, Lb, rfl, rfl, hOc, hOb, Hf⟩
  clear H
  rintro u w ⟨Sc, Sb, kc, kb, Lc, Lb, h7, h8, hOc, hOb, H⟩
  refine WP.know (t := 7) h7 (WP.know (t := 8) h8 ?_)
  obtain ⟨LB, hLB⟩ : ∃ LB, LB = Lc ++ Lb := ⟨_, rfl⟩
  have hrC : Reads LB fun w => RowsAt 2 needCells w Sc (colN ns) := fun w0 S w H => OwnS.needs (R := Lb) hOc (H.perm (by rw [hLB]; exact List.perm_append_comm))
  have hrB : Reads LB fun w => RowsAt 2 needCells w Sb (briN ns) := fun w0 S w H => OwnS.needs (R := Lc) hOb (by rw [← hLB]; exact H)
  rw [← hLB] at H
  clear hOc hOb
  refine Y.q <| Y.q <| WP.rquiet mixed (by kernel_rfl) H ?_
  clear H; intro w hbw5 H
  have hsb := hrB.at H (List.sublist_append_right _ _)
  refine Y.v (Y.f rfl rfl) <| Y.v (Y.l H 0 rfl rfl rfl) <| Y.v (Ev.mvS rfl) <| OPS.callq rfl rfl rfl (EvC.func (fun_run rfl)) (fun w2 hb2 => r44SumBri Sb ns kb w2 (hsb.below hb2) (by omega) hbb) ?_
  refine Y.v (Ev.neq rfl rfl) <| Y.v (Ev.mvB rfl) <| Y.g rfl rfl (fun hg => Y.f rfl rfl) <| Y.g rfl rfl (fun hg => Ev.load1 (agg_run rfl) (gvE hg rfl) (H.ldL 0 rfl _ rfl)) <| Y.g rfl rfl (fun hg => Ev.len (el_run rfl) (gvE hg rfl)) <| Y.g rfl rfl (fun hg => Ev.mvS rfl) <| Y.g rfl rfl (fun hg => Ev.len (el_run rfl) (gvE hg rfl)) <| Y.g rfl rfl (fun hg => Ev.neq (gvE hg rfl) (gvE hg rfl)) <| Y.v (Ev.pickOr rfl rfl rfl) <| Y.v (Ev.mvB rfl) <| Y.g rfl rfl (fun hg => Y.f rfl rfl) <| Y.g rfl rfl (fun hg => Ev.load1 (agg_run rfl) (gvE hg rfl) (H.ldL 0 rfl _ rfl)) <| Y.g rfl rfl (fun hg => Ev.len (el_run rfl) (gvE hg rfl)) <| Y.g rfl rfl (fun hg => Ev.mvS rfl) <| Y.g rfl rfl (fun hg => Ev.len (el_run rfl) (gvE hg rfl)) <| Y.g rfl rfl (fun hg => Ev.neq (gvE hg rfl) (gvE hg rfl)) <| Y.v (Ev.pickOr rfl rfl rfl) <| Y.v (Ev.mvB rfl) <| Y.g rfl rfl (fun hg => Y.f rfl rfl) <| Y.g rfl rfl (fun hg => Ev.load1 (agg_run rfl) (gvE hg rfl) (H.ldL 0 rfl _ rfl)) <| OPS.gcallq2 (f := 29) (fun hg w2 hb2 => r44Ranged AU us cu w2 ((hU.sh H).below hb2) hul) rfl rfl rfl rfl rfl (fun hg => EvC.conv (EvC.func (fun_run rfl)) (l1 (gvE hg rfl))) ?_
  refine Y.g rfl rfl (fun hg => Ev.not (gvE hg rfl)) <| Y.v (Ev.pickOr rfl rfl rfl) <| Y.v (Ev.mvB rfl) <| Y.g rfl rfl (fun hg => Y.f rfl rfl) <| Y.g rfl rfl (fun hg => Ev.load1 (agg_run rfl) (gvE hg rfl) (H.ldL 0 rfl _ rfl)) <| OPS.gcallq2 (f := 29) (fun hg w2 hb2 => r44Ranged AV vs cv w2 ((hV.sh H).below hb2) hvl) rfl rfl rfl rfl rfl (fun hg => EvC.conv (EvC.func (fun_run rfl)) (l1 (gvE hg rfl))) ?_
  refine Y.g rfl rfl (fun hg => Ev.not (gvE hg rfl)) <| Y.v (Ev.pickOr rfl rfl rfl) <| OPS.nilq H ?_
  clear H; intro w hbx5 H
  refine WP.cond rfl (fun hc5 => ?_) (fun hc5 => ?_)
  ·refine Y.qr <| Y.v (Ev.asB rfl) <| Y.z ?_
   refine WP.ret ⟨_, rfl, ?_⟩
   refine ⟨false, rfl, ⟨(fun h => by cases h), fun hp => ?_⟩, H.below⟩
   rw [hp.bk, hp.un.1, hp.un.2, hp.vn.1, hp.vn.2] at hc5
   simp at hc5
  obtain ⟨⟨⟨⟨q2, q4⟩, q6⟩, q3⟩, q5⟩ : (((b = (movD ns).sum ∧ us.length = (colN ns).length) ∧ vs.length = (briN ns).length) ∧ rngB us = true) ∧ rngB vs = true := by
   have h := hc5
   simp at h
   exact ⟨⟨⟨⟨h.1.1.1.1, by omega⟩, by omega⟩, h.1.2⟩, h.2⟩
  have hub := rngB_at q3
  have hvb := rngB_at q5
  obtain ⟨u, hu⟩ : ∃ u : Nat → Int, u = fun j => us.getD j 0 := ⟨_, rfl⟩
  obtain ⟨v, hv⟩ : ∃ v : Nat → Int, v = fun j => vs.getD j 0 := ⟨_, rfl⟩
  have hub2 : ∀ j, 0 ≤ u j ∧ u j ≤ 1125899906842624 := fun j => by rw [hu]; exact hub j
  have hvb2 : ∀ j, 0 ≤ v j ∧ v j ≤ 1125899906842624 := fun j => by rw [hv]; exact hvb j
  have hug : ∀ j (h : j < us.length), us[j] = u j := fun j h => by rw [hu]; exact getDx h
  have hvg : ∀ j (h : j < vs.length), vs[j] = v j := fun j h => by rw [hv]; exact getDx h
  have hno : ∀ w, Below w0.heap.size w0 w → (¬ Flo.Feas 1 (timL m l ns) u v) → ∃ r : Bool, Ending.returned (Bo false) = .returned (.bool r) ∧ (r = true ↔ ProvedP m l ts ns hd s b us vs) ∧ Below w0.heap.size w0 w := fun w H hn =>
   ⟨false, rfl, ⟨(fun h => by cases h), fun hp => absurd (by have := hp.feas; rw [hu, hv]; simpa using this) hn⟩, H⟩
  refine Y.k <| Y.qr <| Y.v (Ev.asI rfl) <| Y.z <| Y.q <| Y.qr <| Y.v (Ev.asI rfl) <| Y.z <| WP.block <| WP.loop [9, 10, 60, 61, 62, 63, 64, 65, 66, 67, 68, 69, 70, 71, 72, 73, 74, 75, 76, 77, 78] (fun k e w' => ∃ (q : Nat) (sm : Int), q + k = (briN ns).length ∧ e 10 = I q ∧ e 9 = I sm ∧ sm = Flo.dn ((movD ns).take q) v ∧ (0 ≤ sm ∧ sm ≤ 36028797018963968 * (q : Int)) ∧ SH w0 [] w' ([⟨g3, 33, bndL s b AU us.length cu AV vs.length cv⟩, ⟨g2, 28, [I m, .slice A l.length ca, .slice B ts.length cb, .slice C ns.length cc, I hd]⟩] ++ LB)) ((briN ns).length) (⟨0, 0, by omega, rfl, rfl, rfl, by omega, H⟩) ?_
  clear H
  rintro k uu w ⟨q, sm, hk, h10, h9, hs2, hs2b, H⟩
  refine WP.know (t := 10) h10 (WP.know (t := 9) h9 ?_)
  refine Y.q <| Y.qr <| Y.v (Y.m rfl) <| Y.v (Ev.mvS rfl) <| Y.v (Y.n rfl) <| Y.v (Ev.lss rfl rfl) <| Y.z ?_
  refine WP.cond rfl (fun hc9 => ?_) (fun hc9 => ?_)
  ·have hlt : q < (briN ns).length := by simpa using hc9
   obtain ⟨bv, ov, rfl, hxv⟩ := hV q (by omega)
   rw [hvg q (by omega)] at hxv
   have hDj : (movD ns)[q]'(by omega) = -(briN ns)[q].move := by simp [movD]
   have hmx := (hbm (briN ns)[q] (List.getElem_mem hlt)).2
   have hpb := prodB (a := -(briN ns)[q].move) (b := v q) (by omega) (hvb2 q)
   have hdn := dn_take (D := movD ns) (v := v) (j := q) (by omega)
   rw [hDj] at hdn
   have hcom : v q * (briN ns)[q].move = -(-(briN ns)[q].move * v q) := by rw [Int.neg_mul, Int.neg_neg]; exact Int.mul_comm _ _
   obtain ⟨pd, hpd⟩ : ∃ pd, pd = -(briN ns)[q].move * v q := ⟨_, rfl⟩
   rw [← hpd] at hpb hdn hcom
   have hf1 : fits (v q * (briN ns)[q].move) := by rw [hcom]; unfold fits; omega
   have hf2 : fits (sm - v q * (briN ns)[q].move) := by rw [hcom]; unfold fits; omega
   refine Y.k <| Y.q <| WP.block <| WP.rstill mixed (by kernel_rfl) H ?_
   clear H; intro w hbw11 H
   obtain ⟨b1, o1, rfl, hcn⟩ := hrB.at H (List.sublist_append_right _ _) q hlt
   have hci : w.cell? ⟨b1, o1 + q * 2 + 1, none⟩ = some (I (briN ns)[q].move) := hcn.2.1
   refine Y.v (Y.m rfl) <| Y.v (Y.f rfl rfl) <| Y.v (Y.l H 0 rfl rfl rfl) <| Y.v (Y.m rfl) <| Y.v (Y.x rfl rfl rfl rfl) <| Y.v (Y.c (H.ld0 (by assumption)) rfl) ?_
   refine Y.v (Ev.mvS rfl) <| Y.v (Y.m rfl) <| Y.v (Y.X rfl rfl rfl rfl rfl) <| Y.v (Y.f rfl rfl) <| Y.v (Y.c (by assumption) rfl) ?_
   refine Y.v (Ev.mul rfl rfl hf1) <| Y.v (Ev.sub rfl rfl hf2) <| Y.v (Ev.asI rfl) <| OPS.nil_s <| Y.r <| Y.v (Y.m rfl) <| Y.v (Y.p rfl rfl) <| Y.v (Ev.asI rfl) <| Y.z ?_
   exact ⟨(by repeat (first | exact Agree.refl _ _ | exact Agree.mix _ _ _ | refine Agree.upd rfl ?_ | refine Agree.mix2 rfl ?_)), k - 1, by omega, q + 1, sm - v q * (briN ns)[q].move, by omega, rfl, rfl, (by rw [hdn, hcom, hs2]; omega), (by rw [hcom]; omega), H⟩
  have hq : q = (briN ns).length := by simp at hc9; omega
  subst hq
  rw [List.take_of_length_le (show (movD ns).length ≤ (briN ns).length by omega)] at hs2
  obtain ⟨dD, hdD⟩ : ∃ dD, dD = Flo.dn (movD ns) v := ⟨_, rfl⟩
  rw [← hdD] at hs2
  refine WP.exit <| XB.hit <| Y.q <| Y.qr <| Y.v (Ev.asI rfl) <| Y.z <| WP.block <| WP.loop [4, 9, 11, 12, 13, 14, 15, 79, 80, 81, 82, 83, 84, 85, 86, 87, 88, 89, 90, 91, 92, 93, 94, 95, 96, 97, 98, 99, 100, 101, 102, 103, 104, 105, 106, 107, 108, 109, 110, 111, 112, 113, 114, 115, 116, 117, 118, 119, 120, 121, 122, 123, 124, 125, 126, 127, 128, 129, 130, 131, 132, 133, 134, 135, 136, 137, 138, 139] (fun k e w' => ∃ (j : Nat) (sm2 : Int), j + k = (colN ns).length ∧ e 11 = I j ∧ e 9 = I sm2 ∧ sm2 = dD - Flo.dn ((movC ns).take j) u ∧ (-(36028797018963968 * (j : Int)) ≤ sm2 ∧ sm2 ≤ sm) ∧ (∀ i, i < j → ∀ k x, Flo.tmAt (timL m l ns) i k = some x → 0 ≤ x → v k ≤ u i + 1 * x) ∧ SH w0 [] w' ([⟨g3, 33, bndL s b AU us.length cu AV vs.length cv⟩, ⟨g2, 28, [I m, .slice A l.length ca, .slice B ts.length cb, .slice C ns.length cc, I hd]⟩] ++ LB)) ((colN ns).length) (⟨0, sm, by omega, rfl, rfl, (by rw [hs2]; simp [Flo.dn]), by omega, (fun i h => absurd h (by omega)), H⟩) ?_
  clear H
  rintro k uu w ⟨j, sm2, hk, h11, h9, hsm, hsb2, hfs, H⟩
  refine WP.know (t := 11) h11 (WP.know (t := 9) h9 ?_)
  refine Y.q <| Y.qr <| Y.v (Y.m rfl) <| Y.v (Ev.mvS rfl) <| Y.v (Y.n rfl) <| Y.v (Ev.lss rfl rfl) <| Y.z ?_
  refine WP.cond rfl (fun hc13 => ?_) (fun hc13 => ?_)
  ·have hlt : j < (colN ns).length := by simpa using hc13
   obtain ⟨bu, ou, rfl, hxu⟩ := hU j (by omega)
   rw [hug j (by omega)] at hxu
   obtain ⟨nx, hnx⟩ : ∃ nx, nx = (colN ns)[j] := ⟨_, rfl⟩
   have hmx := hcm (colN ns)[j] (List.getElem_mem hlt)
   rw [← hnx] at hmx
   have hCj : (movC ns)[j]'(by omega) = nx.move := by simp [movC, hnx]
   have hpb := prodB (a := nx.move) (b := u j) (by omega) (hub2 j)
   have hdn := dn_take (D := movC ns) (v := u) (j := j) (by omega)
   rw [hCj] at hdn
   have hcom : u j * nx.move = nx.move * u j := Int.mul_comm _ _
   obtain ⟨pd, hpd⟩ : ∃ pd, pd = nx.move * u j := ⟨_, rfl⟩
   rw [← hpd] at hpb hdn hcom
   have hf1 : fits (u j * nx.move) := by rw [hcom]; unfold fits; omega
   have hf2 : fits (sm2 - u j * nx.move) := by rw [hcom]; unfold fits; omega
   obtain ⟨vx, hvx⟩ := Int.eq_ofNat_of_zero_le hmx.1.1
   have hvm : vx < m := by omega
   have hvt : nx.node.toNat = vx := by omega
   obtain ⟨bS, oS, rfl, _⟩ := hrC.at H (List.sublist_append_right _ _) j hlt
   have hcw : ∀ w L, SH w0 [] w L → LB.Sublist L → w.cell? ⟨bS, oS + j * 2, none⟩ = some (I vx) ∧ w.cell? ⟨bS, oS + j * 2 + 1, none⟩ = some (I nx.move) := fun w L H hs => by
    obtain ⟨_, _, e, hc⟩ := hrC.at H hs j hlt
    cases e; rw [← hnx] at hc; rw [← hvx]; exact ⟨hc.1, hc.2.1⟩
   refine Y.k <| Y.q <| WP.block <| Y.q <| WP.rstill mixed (by kernel_rfl) H ?_
   clear H; intro w hbw15 H
   have hci := (hcw w _ H (List.sublist_append_right _ _)).2
   refine Y.v (Y.m rfl) <| Y.v (Y.f rfl rfl) <| Y.v (Y.l H 0 rfl rfl rfl) <| Y.v (Y.m rfl) <| Y.v (Y.x rfl rfl rfl rfl) <| Y.v (Y.c (H.ld0 (by assumption)) rfl) ?_
   refine Y.v (Ev.mvS rfl) <| Y.v (Y.m rfl) <| Y.v (Y.X rfl rfl rfl rfl rfl) <| Y.v (Y.f rfl rfl) <| Y.v (Y.c (by assumption) rfl) ?_
   refine Y.v (Ev.mul rfl rfl hf1) <| Y.v (Ev.sub rfl rfl hf2) <| Y.v (Ev.asI rfl) <| OPS.nil_s <| Y.q ?_
   refine WP.rheldC [12, 13, 98, 99, 100, 101, 102, 103, 104, 105, 106, 107, 108] (fun u w' => ∃ (TA : Option Addr) (LT : List Blk), u 12 = .slice TA (timesOf m l vx).length (timesOf m l vx).length ∧ u 13 = I (timesErr m l vx) ∧ OwnL 3 I TA (timesOf m l vx) LT ∧ SH w0 [] w' ([⟨g3, 33, bndL s b (some ⟨bu, ou, none⟩) us.length cu AV vs.length cv⟩, ⟨g2, 28, [I m, .slice A l.length ca, .slice B ts.length cb, .slice C ns.length cc, I hd]⟩] ++ (LB ++ LT))) mixed H ?_ ?_
   ·clear H; intro w hbw16 H
    refine OPH.take 0 rfl rfl rfl rfl (by kernel_rfl) (by kernel_rfl) (by kernel_rfl) rfl (by exact H) (fun w H => Ev.fieldAddr (fld_run rfl) rfl) ?_
    refine OPH.take 1 rfl rfl rfl rfl (by kernel_rfl) (by kernel_rfl) (by kernel_rfl) rfl (by exact H) (fun w H => Ev.loadN [I m, .slice A l.length ca] (agg_run rfl) (size_run rfl) rfl ⟨H.ldL 1 rfl 0 rfl, H.ldL 1 rfl 1 rfl, trivial⟩) ?_
    refine OPH.take 2 rfl rfl rfl rfl (by kernel_rfl) (by kernel_rfl) (by kernel_rfl) rfl (by exact H) (fun w H => Ev.mvS rfl) ?_
    refine OPH.take 3 rfl rfl rfl rfl (by kernel_rfl) (by kernel_rfl) (by kernel_rfl) rfl (by exact H) (fun w H => Ev.mvI rfl) ?_
    refine OPH.take 4 rfl rfl rfl rfl (by kernel_rfl) (by kernel_rfl) (by kernel_rfl) rfl (by exact H) (fun w H => (by exact Ev.indexAddr (el_run rfl) (size_run rfl) rfl rfl rfl (by omega))) ?_
    refine OPH.take 5 rfl rfl rfl rfl (by kernel_rfl) (by kernel_rfl) (by kernel_rfl) rfl (by exact H) (fun w H => Ev.fieldAddr (fld_run rfl) rfl) ?_
    refine OPH.take 6 rfl rfl rfl rfl (by kernel_rfl) (by kernel_rfl) (by kernel_rfl) rfl (by exact H) (fun w H => Ev.load1 (agg_run rfl) rfl (hcw w _ H (List.sublist_append_right _ _)).1) ?_
    refine Y.A [7] rfl ⟨⟨_, rfl, ?_⟩, trivial⟩
    refine OPS.call (d := some 106) rfl rfl rfl (EvC.func (fun_run rfl)) (r8Times m vx A l ca _ (hN.l.sh H)) ?_
    rintro _ w ⟨TA, LT, rfl, hOL, Hc⟩
    refine ⟨_, rfl, ?_⟩
    have Hf := SH.call (Lv := []) (by rw [List.append_nil]; exact H) Hc
    clear H Hc
    have H := Hf.drop (List.sublist_append_left _ _)
    refine Y.z <| ⟨(H), ?_⟩
    refine Y.t 8 H rfl rfl (fun w H => Ev.mvT rfl) <| Y.t 9 H rfl rfl (fun w H => Ev.extract rfl rfl) <| Y.t 10 H rfl rfl (fun w H => Ev.extract rfl rfl) <| Y.t 11 H rfl rfl (fun w H => Ev.asS rfl) <| Y.t 12 H rfl rfl (fun w H => Ev.asI rfl) <| OPH.done (by kernel_rfl) ?_
    exact ⟨(by repeat (first | exact Agree.refl _ _ | exact Agree.mix _ _ _ | refine Agree.upd rfl ?_ | refine Agree.mix2 rfl ?_)), TA, LT, rfl, rfl, hOL, by rw [← List.append_assoc]; exact Hf⟩
   clear H
   rintro uq w ⟨TA, LT, h12, h13, hOL, H⟩
   refine WP.know (t := 12) h12 (WP.know (t := 13) h13 ?_)
   obtain ⟨hte, htl'⟩ := timesOf_ok hK.road hvm
   have htn := timesL_length m l vx
   rw [htl'] at hOL
   have hvl2 : (timesOf m l vx).length = m := by rw [htl', htn]
   refine Y.qr <| Y.v (Ev.asI rfl) <| Y.z <| WP.block <| WP.loop [4, 14, 15, 109, 110, 111, 112, 113, 114, 115, 116, 117, 118, 119, 120, 121, 122, 123, 124, 125, 126, 127, 128, 129, 130, 131, 132, 133, 134, 135, 136, 137, 138, 139] (fun k e w' => ∃ (q : Nat), q + k = (briN ns).length ∧ e 14 = I q ∧ (∀ k x, k < q → Flo.tmAt (timL m l ns) j k = some x → 0 ≤ x → v k ≤ u j + 1 * x) ∧ SH w0 [] w' ([⟨g3, 33, bndL s b (some ⟨bu, ou, none⟩) us.length cu AV vs.length cv⟩, ⟨g2, 28, [I m, .slice A l.length ca, .slice B ts.length cb, .slice C ns.length cc, I hd]⟩] ++ (LB ++ LT))) ((briN ns).length) (⟨0, by omega, rfl, (fun k x h => absurd h (by omega)), H⟩) ?_
   clear H
   rintro k2 uu2 w ⟨q, hk2, h14, hfq, H⟩
   refine WP.know (t := 14) h14 <| Y.q <| Y.qr <| Y.v (Y.m rfl) <| Y.v (Ev.mvS rfl) <| Y.v (Y.n rfl) <| Y.v (Ev.lss rfl rfl) <| Y.z ?_
   refine WP.cond rfl (fun hc18 => ?_) (fun hc18 => ?_)
   ·have hlt2 : q < (briN ns).length := by simpa using hc18
    have hbx := (hbm (briN ns)[q] (List.getElem_mem hlt2)).1
    obtain ⟨bv, ov, rfl, hxv⟩ := hV q (by omega)
    rw [hvg q (by omega)] at hxv
    obtain ⟨y, hy⟩ := Int.eq_ofNat_of_zero_le hbx.1
    have hym : y < m := by omega
    have hyt : (briN ns)[q].node.toNat = y := by omega
    have hxe2 := timL_some (m := m) (l := l) hlt hlt2
    rw [hyt, ← hnx, hvt] at hxe2
    have hxb := roadT_bd hK.road hvm hym
    have hxt : (timesL m l vx)[y]'(by omega) = roadT m l vx y := timesL_at (by omega)
    obtain ⟨x, hx⟩ : ∃ x, x = roadT m l vx y := ⟨_, rfl⟩
    rw [← hx] at hxe2 hxb hxt
    obtain ⟨b2, o2, rfl, hc2⟩ := hrB.at H subA q hlt2
    have hci : w.cell? ⟨b2, o2 + q * 2, none⟩ = some (I y) := by have := hc2.1; rw [hy] at this; exact this
    have hx0 := hOL.rd H (fun b hb => List.mem_append_right _ (List.mem_append_right _ hb))
    obtain ⟨bT, oT, rfl, hxv2⟩ := hx0 y (by omega)
    rw [hxt] at hxv2
    have hyl : y < (timesOf m l vx).length := by omega
    have hub3 := hub2 j
    have hvb3 := hvb2 q
    refine Y.k <| Y.q <| WP.block <| Y.qr <| Y.v (Ev.mvS rfl) <| Y.v (Ev.mvS rfl) <| Y.v (Y.m rfl) <| Y.v (Y.X rfl rfl rfl rfl rfl) <| Y.v (Y.f rfl rfl) <| Y.v (Y.c (by assumption) rfl) ?_
    refine Y.v (Y.x rfl rfl rfl rfl) <| Y.v (Y.c (by assumption) rfl) ?_
    refine Y.v (Ev.asI rfl) <| Y.z <| Y.q <| WP.rstill mixed (by kernel_rfl) H ?_
    clear H; intro w hbw21 H
    refine Y.v (Y.m rfl) <| Y.v (Ev.geq rfl rfl) <| Y.v (Ev.mvB rfl) <| Y.g rfl rfl (fun hg => Y.f rfl rfl) <| Y.g rfl rfl (fun hg => Ev.load1 (agg_run rfl) (gvE hg rfl) (H.ldL 0 rfl _ rfl)) <| Y.g rfl rfl (fun hg => Y.m rfl) <| Y.g rfl rfl (fun hg => Ev.indexAddr1 (el_run rfl) (size_run rfl) (gvE hg rfl) (gvE hg rfl) rfl (by omega)) <| Y.g rfl rfl (fun hg => Ev.load1 (agg_run rfl) (gvE hg rfl) (H.ld0 (by assumption))) ?_
    refine Y.g rfl rfl (fun hg => Y.f rfl rfl) <| Y.g rfl rfl (fun hg => Ev.load1 (agg_run rfl) (gvE hg rfl) (H.ldL 0 rfl _ rfl)) <| Y.g rfl rfl (fun hg => Y.m rfl) <| Y.g rfl rfl (fun hg => Ev.indexAddr1 (el_run rfl) (size_run rfl) (gvE hg rfl) (gvE hg rfl) rfl (by omega)) <| Y.g rfl rfl (fun hg => Ev.load1 (agg_run rfl) (gvE hg rfl) (H.ld0 (by assumption))) ?_
    refine Y.g rfl rfl (fun hg => Ev.sub (gvE hg rfl) (gvE hg rfl) (by unfold fits; omega)) <| Y.g rfl rfl (fun hg => Y.m rfl) <| Y.g rfl rfl (fun hg => Ev.gtr (gvE hg rfl) (gvE hg rfl)) <| Y.v (Ev.pickAnd rfl rfl rfl) <| OPS.nil_s ?_
    refine WP.cond rfl (fun hc21 => ?_) (fun hc21 => ?_)
    ·refine Y.qr <| Y.v (Ev.asB rfl) <| Y.z ?_
     refine WP.ret ⟨_, rfl, ?_⟩
     have hb : 0 ≤ x ∧ x < v q - u j := by simpa using hc21
     exact hno w H.below fun hF => by have := hF j q x hxe2 hb.1; omega
    refine Y.k <| Y.r <| Y.v (Y.m rfl) <| Y.v (Y.p rfl rfl) <| Y.v (Ev.asI rfl) <| Y.z ?_
    have hb : ¬ (0 ≤ x ∧ x < v q - u j) := by simpa using hc21
    refine ⟨(by repeat (first | exact Agree.refl _ _ | exact Agree.mix _ _ _ | refine Agree.upd rfl ?_ | refine Agree.mix2 rfl ?_)), k2 - 1, by omega, q + 1, by omega, rfl, fun k z hky hz hz0 => ?_, H⟩
    by_cases hkq : k = q
    ·subst hkq; rw [hxe2] at hz; cases hz; omega
    ·exact hfq k z (by omega) hz hz0
   refine WP.exit <| XB.hit <| Y.r <| Y.v (Y.m rfl) <| Y.v (Y.p rfl rfl) <| Y.v (Ev.asI rfl) <| Y.z ?_
   have hq : q = (briN ns).length := by simp at hc18; omega
   refine ⟨(by repeat (first | exact Agree.refl _ _ | exact Agree.mix _ _ _ | refine Agree.upd rfl ?_ | refine Agree.mix2 rfl ?_)), k - 1, by omega, j + 1, sm2 - u j * nx.move, by omega, rfl, rfl, (by rw [hdn, hcom, hsm]; omega), (by rw [hcom]; omega), fun i hi k y hy hy0 => ?_, H.drop (List.Sublist.append (List.Sublist.refl [_, _]) (List.sublist_append_left LB _))⟩
   by_cases hij : i = j
   ·subst hij
    have := (hX.tab.cols i k y hy).2
    exact hfq k y (by omega) hy hy0
   ·exact hfs i (by omega) k y hy hy0
  have hj : j = (colN ns).length := by simp at hc13; omega
  subst hj
  rw [List.take_of_length_le (show (movC ns).length ≤ (colN ns).length by omega)] at hsm
  have hF : Flo.Feas 1 (timL m l ns) u v := fun i k x hx hx0 => hfs i (by have := (hX.tab.cols i k x hx).1; omega) k x hx hx0
  refine WP.exit <| XB.hit <| Y.q <| WP.rquiet mixed (by kernel_rfl) H ?_
  clear H; intro w hbw23 H
  refine Y.v (Y.f rfl rfl) <| Y.v (Y.l H 0 rfl rfl rfl) <| Y.v (Y.m rfl) <| Y.v (Y.o H 1 rfl rfl) <| OPS.callq rfl rfl rfl (EvC.func (fun_run rfl)) (fun w2 hb2 => r44Capacity m hd A B C l.length ns.length ts ca cb cc w2 ((hN.t.sh H).below hb2) (by omega) htb) ?_
  refine OPS.callq rfl rfl rfl (EvC.func (fun_run rfl)) (fun w2 hb2 => r44Divided sm2 (capL ts) w2 (by omega) (by omega)) ?_
  refine Y.v (Ev.eql rfl rfl) <| Y.v (Ev.asB rfl) <| OPS.nilq H ?_
  clear H; intro w hbx23 H
  refine WP.ret ⟨_, rfl, ?_⟩
  refine ⟨_, rfl, ?_, H.below⟩
  rw [hsm]
  simp only [decide_eq_true_eq]
  constructor
  ·intro h
   refine ⟨h0, q2, ⟨q3, q4⟩, ⟨q5, q6⟩, ?_, ?_⟩
   ·rw [← hu, ← hv]; simpa using hF
   ·rw [← hu, ← hv, ← hdD]; exact h
  ·intro hp
   have h2 := hp.secs
   rw [← hu, ← hv, ← hdD] at h2; exact h2
 ·have h0' := h0
  refine Calls.ofWP Try.func13 rfl Try.results13 Try.ntmps13 rfl <| Y.qr <| Y.bx (cA rfl) H ?_
  clear H; intro g2 w H
  refine Y.bx (cA rfl) H ?_
  clear H; intro g3 w H
  refine Y.v (Ev.asB rfl) <| Y.z <| Y.q <| Y.qr <| Y.v (Y.o H 1 rfl rfl) <| OPS.call (d := some 18) rfl rfl rfl (EvC.func (fun_run rfl)) (r44Least n hd A B C l ts ns ca cb cc w (hN.sh H)) ?_
  rintro _ w ⟨t0, er, rfl, hR, hb⟩
  refine ⟨_, rfl, ?_⟩
  replace H := H.toBelow hb; clear hb
  refine Y.v (Ev.mvT rfl) <| Y.v (Ev.extract rfl rfl) <| Y.v (Ev.extract rfl rfl) <| Y.v (Ev.asI rfl) <| Y.v (Ev.asI rfl) <| Y.z <| Y.qr <| Y.v (Y.m rfl) <| Y.v (Ev.neq rfl rfl) <| Y.z ?_
  refine WP.cond rfl (fun hc2 => ?_) (fun hc2 => ?_)
  ·refine Y.qr <| Y.v (Ev.asB rfl) <| Y.z ?_
   refine WP.ret ⟨_, rfl, ?_⟩
   exact ⟨false, rfl, ⟨(fun h => by cases h), fun hp => absurd hp.err h0⟩, H.below⟩
  refine Y.k <| Y.q ?_
  exact absurd hc2 (by rw [hR.err]; simp [h0])
end Go.Proofs.Ytgjfjbphngamgaa

/-
 The laws BoundFinds, BoundProofs.
-/
set_option linter.all false
namespace Go.Proofs.Ytgjfjbphngamgaa
open Go Go.W Go.RowKit
theorem r44ProvedT (n hd s b : Int) (A B C AU AV : Option Addr) (l : List Edg) (ts : List Truck) (ns : List Need) (us vs : List Int) (ca cb cc cu cv : Nat) (w0 : World) (hN : NightAt w0 A B C l ts ns cc) (hU : IntsAt w0 AU us) (hV : IntsAt w0 AV vs) (hul : us.length ≤ 1000) (hvl : vs.length ≤ 1000) (hp : ProvedP n l ts ns hd s b us vs) :
  Calls Try.prog 13 #[.agg #[I n, .slice A l.length ca, .slice B ts.length cb, .slice C ns.length cc, I hd], .agg (bndL s b AU us.length cu AV vs.length cv).toArray] w0 fun e w' => e = .returned (.bool true) ∧ Below w0.heap.size w0 w' :=
 (r44Proved n hd s b A B C AU AV l ts ns us vs ca cb cc cu cv w0 hN hU hV hul hvl).mono fun e w' ⟨r, h1, h2, h3⟩ => by
  have h : r = true := h2.2 hp
  exact ⟨by rw [h1, h], h3⟩
open Classical in
theorem r44ProvedD (n hd s b : Int) (A B C AU AV : Option Addr) (l : List Edg) (ts : List Truck) (ns : List Need) (us vs : List Int) (ca cb cc cu cv : Nat) (w0 : World) (hN : NightAt w0 A B C l ts ns cc) (hU : IntsAt w0 AU us) (hV : IntsAt w0 AV vs) (hul : us.length ≤ 1000) (hvl : vs.length ≤ 1000) :
  Calls Try.prog 13 #[.agg #[I n, .slice A l.length ca, .slice B ts.length cb, .slice C ns.length cc, I hd], .agg (bndL s b AU us.length cu AV vs.length cv).toArray] w0 fun e w' => e = .returned (.bool (decide (ProvedP n l ts ns hd s b us vs))) ∧ Below w0.heap.size w0 w' :=
 (r44Proved n hd s b A B C AU AV l ts ns us vs ca cb cc cu cv w0 hN hU hV hul hvl).mono fun e w' ⟨r, h1, h2, h3⟩ => by
  refine ⟨?_, h3⟩
  rw [h1]
  have h : r = decide (ProvedP n l ts ns hd s b us vs) := by
   cases r with
   | true => exact (decide_eq_true (h2.1 rfl)).symm
   | false => exact (decide_eq_false fun hp => by have := h2.2 hp; simp at this).symm
  rw [h]
set_option maxHeartbeats 1000000 in
theorem lawFinds (n hd : Int) (A B C : Option Addr) (l : List Edg) (ts : List Truck) (ns : List Need) (ca cb cc : Nat) (w0 : World) (hN : NightAt w0 A B C l ts ns cc) :
  Calls Try.prog 3 #[.agg #[I n, .slice A l.length ca, .slice B ts.length cb, .slice C ns.length cc, I hd]] w0 fun e w' => e = .returned (.bool true) ∧ Below w0.heap.size w0 w' := by
 have H := SH.refl w0
 refine Calls.ofWP Try.func3 rfl Try.results3 Try.ntmps3 rfl <| Y.qr <| Y.bx (cA rfl) H ?_
 clear H; intro g1 w H
 refine Y.v (Ev.asB rfl) <| Y.z <| Y.q <| Y.qr <| Y.v (Y.o H 0 rfl rfl) <| OPS.call (d := some 8) rfl rfl rfl (EvC.func (fun_run rfl)) (r42Few n hd A B C l.length ts.length ns.length ca cb cc w) ?_
 rintro _ w ⟨rfl, hb⟩
 refine ⟨_, rfl, ?_⟩
 replace H := H.toBelow hb; clear hb
 refine Y.v (Ev.not rfl) <| Y.z ?_
 refine WP.cond rfl (fun hc1 => ?_) (fun hc1 => ?_)
 ·refine Y.qr <| OPS.call (d := some 10) rfl rfl rfl (EvC.func (fun_run rfl)) (lawAwakeB w) ?_
  rintro _ w ⟨rfl, hb⟩
  refine ⟨_, rfl, ?_⟩
  replace H := H.toBelow hb; clear hb
  refine Y.v (Ev.asB rfl) <| Y.z ?_
  refine WP.ret ⟨_, rfl, ?_⟩
  exact ⟨rfl, H.below⟩
 refine Y.k <| Y.qr <| Y.v (Y.o H 0 rfl rfl) <| OPS.call (d := some 13) rfl rfl rfl (EvC.func (fun_run rfl)) (boundFind n hd A B C l ts ns ca cb cc w (hN.sh H)) ?_
 rintro _ w ⟨s, b, us, vs, AU, AV, cu, cv, L, rfl, hF, hrd, Hc⟩
 refine ⟨_, rfl, ?_⟩
 replace H := SH.call (Lv := []) (by rw [List.append_nil]; exact H) Hc
 clear Hc
 have hsl := hF.short
 refine Y.v (Ev.mvT rfl) <| Y.v (Ev.extract rfl rfl) <| Y.v (Ev.extract rfl rfl) <| Y.al H rfl rfl ?_
 clear H; intro g3 w H
 refine OPS.store 0 _ rfl rfl rfl (size_run rfl) rfl (cA rfl) rfl rfl H rfl (by simp) ?_
 clear H; intro w H; try simp only [List.set_cons_zero, List.set_cons_succ, putL, Nat.zero_add] at H
 refine Y.v (Ev.asI rfl) <| Y.z <| Y.qr <| Y.v (Y.o H 1 rfl rfl) <| OPS.call (d := some 18) rfl rfl rfl (EvC.func (fun_run rfl)) (r44Find n hd A B C l ts ns ca cb cc w (hN.sh H)) ?_
 rintro _ w ⟨s2, b2, AU2, AV2, nu2, cu2, nv2, cv2, rfl, hR, hb⟩
 refine ⟨_, rfl, ?_⟩
 replace H := H.toBelow hb; clear hb
 refine Y.v (Ev.mvT rfl) <| Y.v (Ev.extract rfl rfl) <| Y.v (Ev.extract rfl rfl) <| Y.al H rfl rfl ?_
 clear H; intro g5 w H
 refine OPS.store 0 _ rfl rfl rfl (size_run rfl) rfl (cA rfl) rfl rfl H rfl (by simp) ?_
 clear H; intro w H; try simp only [List.set_cons_zero, List.set_cons_succ, putL, Nat.zero_add] at H
 refine Y.v (Ev.asI rfl) <| Y.z <| Y.q <| Y.qr <| Y.v (Y.m rfl) <| Y.v (Y.m rfl) <| Y.v (Ev.neq rfl rfl) <| Y.z ?_
 refine WP.cond rfl (fun hc5 => ?_) (fun hc5 => ?_)
 ·refine Y.qr <| Y.v (Ev.asB rfl) <| Y.z ?_
  refine WP.ret ⟨_, rfl, ?_⟩
  exact absurd hc5 (by simp)
 refine Y.k <| Y.q <| Y.q ?_
 unfold bndL at H
 simp only [List.cons_append, List.nil_append] at H
 refine Y.r <| Y.v (Y.m rfl) <| Y.v (Ev.neq rfl rfl) <| Y.z ?_
 refine WP.cond rfl (fun hc7 => ?_) (fun hc7 => ?_)
 ·have hne : findErr n l ts ns hd ≠ 0 := by simpa using hc7
  obtain ⟨rfl, rfl, rfl, rfl⟩ := hF.bad hne
  refine Y.qr <| Y.v (Y.f rfl rfl) <| Y.v (Y.l H 1 rfl rfl rfl) <| Y.v (Ev.eql rfl rfl) <| Y.v (Ev.mvB rfl) <| Y.g rfl rfl (fun hg => Y.f rfl rfl) <| Y.g rfl rfl (fun hg => Ev.load1 (agg_run rfl) (gvE hg rfl) (H.ldL 1 rfl _ rfl)) <| Y.g rfl rfl (fun hg => Ev.eql (gvE hg rfl) rfl) <| Y.v (Ev.pickAnd rfl rfl rfl) <| Y.v (Ev.mvB rfl) <| Y.g rfl rfl (fun hg => Y.f rfl rfl) <| Y.g rfl rfl (fun hg => Ev.load1 (agg_run rfl) (gvE hg rfl) (H.ldL 1 rfl _ rfl)) <| Y.g rfl rfl (fun hg => Ev.len (el_run rfl) (gvE hg rfl)) <| Y.g rfl rfl (fun hg => Ev.eql (gvE hg rfl) rfl) <| Y.v (Ev.pickAnd rfl rfl rfl) <| Y.v (Ev.mvB rfl) <| Y.g rfl rfl (fun hg => Y.f rfl rfl) <| Y.g rfl rfl (fun hg => Ev.load1 (agg_run rfl) (gvE hg rfl) (H.ldL 1 rfl _ rfl)) <| Y.g rfl rfl (fun hg => Ev.len (el_run rfl) (gvE hg rfl)) <| Y.g rfl rfl (fun hg => Ev.eql (gvE hg rfl) rfl) <| Y.v (Ev.pickAnd rfl rfl rfl) <| Y.v (Ev.mvB rfl) <| OPS.gcall0 (f := 10) (lawAwakeB w) (fun _ _ h => h) rfl rfl rfl rfl rfl (fun hg => (EvC.func (fun_run rfl))) ?_
  intro w hbc; replace H := H.toBelow hbc
  refine Y.v (Ev.pickAnd rfl rfl rfl) <| Y.v (Ev.asB rfl) <| Y.z ?_
  refine WP.ret ⟨_, rfl, ?_⟩
  exact ⟨rfl, H.below⟩
 have he : findErr n l ts ns hd = 0 := by simpa using hc7
 have hp := hF.proved he
 obtain ⟨m, T, hm, hK, hS, e1, e2, _⟩ := hF.good he
 subst hm
 obtain ⟨k1, k2⟩ := hR.good he
 have e3 : s = s2 := by rw [e1, k1 us vs T (by simpa using hS)]
 have e4 : b = b2 := by rw [e2, k2]
 subst e3 e4
 refine Y.k <| Y.qr <| Y.v (Y.f rfl rfl) <| Y.v (Y.l H 1 rfl rfl rfl) <| Y.v (Y.f rfl rfl) <| Y.v (Y.l H 0 rfl rfl rfl) <| Y.v (Ev.eql rfl rfl) <| Y.v (Ev.mvB rfl) <| Y.g rfl rfl (fun hg => Y.f rfl rfl) <| Y.g rfl rfl (fun hg => Ev.load1 (agg_run rfl) (gvE hg rfl) (H.ldL 1 rfl _ rfl)) <| Y.g rfl rfl (fun hg => Y.f rfl rfl) <| Y.g rfl rfl (fun hg => Ev.load1 (agg_run rfl) (gvE hg rfl) (H.ldL 0 rfl _ rfl)) <| Y.g rfl rfl (fun hg => Ev.eql (gvE hg rfl) (gvE hg rfl)) <| Y.v (Ev.pickAnd rfl rfl rfl) <| Y.v (Ev.mvB rfl) <| Y.g rfl rfl (fun hg => Y.o H 2 rfl rfl) <| Y.g rfl rfl (fun hg => Y.o H 1 rfl rfl) <| OPS.gcall0 (f := 13) (r44ProvedT m hd s b A B C AU AV l ts ns us vs ca cb cc cu cv w (hN.sh H) (hrd _ _ _ (H.drop (List.Sublist.cons _ (List.Sublist.cons _ (List.Sublist.cons _ (List.Sublist.refl _)))))).1 (hrd _ _ _ (H.drop (List.Sublist.cons _ (List.Sublist.cons _ (List.Sublist.cons _ (List.Sublist.refl _)))))).2 hsl.1 hsl.2 hp) (fun _ _ h => h) rfl rfl rfl rfl rfl (fun hg => EvC.conv (EvC.func (fun_run rfl)) (l2 (gvE hg rfl) (gvE hg rfl))) ?_
 intro w hbc; replace H := H.toBelow hbc
 refine Y.v (Ev.pickAnd rfl rfl rfl) <| Y.v (Ev.mvB rfl) <| Y.g rfl rfl (fun hg => Y.o H 2 rfl rfl) <| Y.g rfl rfl (fun hg => Y.o H 1 rfl rfl) <| OPS.gcall0 (f := 14) (provedT m hd s b A B C AU AV l ts ns us vs ca cb cc cu cv w (hN.sh H) (hrd _ _ _ (H.drop (List.Sublist.cons _ (List.Sublist.cons _ (List.Sublist.cons _ (List.Sublist.refl _)))))).1 (hrd _ _ _ (H.drop (List.Sublist.cons _ (List.Sublist.cons _ (List.Sublist.cons _ (List.Sublist.refl _)))))).2 hp) (fun _ _ h => h) rfl rfl rfl rfl rfl (fun hg => EvC.conv (EvC.func (fun_run rfl)) (l2 (gvE hg rfl) (gvE hg rfl))) ?_
 intro w hbc; replace H := H.toBelow hbc
 refine Y.v (Ev.pickAnd rfl rfl rfl) <| Y.v (Ev.mvB rfl) <| OPS.gcall0 (f := 10) (lawAwakeB w) (fun _ _ h => h) rfl rfl rfl rfl rfl (fun hg => (EvC.func (fun_run rfl))) ?_
 intro w hbc; replace H := H.toBelow hbc
 refine Y.v (Ev.pickAnd rfl rfl rfl) <| Y.v (Ev.asB rfl) <| Y.z ?_
 refine WP.ret ⟨_, rfl, ?_⟩
 exact ⟨ret_true rfl (by simp), H.below⟩
set_option maxHeartbeats 1000000 in
theorem lawProofs (n hd s b : Int) (A B C AU AV : Option Addr) (l : List Edg) (ts : List Truck) (ns : List Need) (us vs : List Int) (ca cb cc cu cv : Nat) (w0 : World) (hN : NightAt w0 A B C l ts ns cc) (hU : IntsAt w0 AU us) (hV : IntsAt w0 AV vs) :
  Calls Try.prog 4 #[.agg #[I n, .slice A l.length ca, .slice B ts.length cb, .slice C ns.length cc, I hd], .agg (bndL s b AU us.length cu AV vs.length cv).toArray] w0 fun e w' => e = .returned (.bool true) ∧ Below w0.heap.size w0 w' := by
 have H := SH.refl w0
 refine Calls.ofWP Try.func4 rfl Try.results4 Try.ntmps4 rfl <| Y.qr <| Y.bx (cA rfl) H ?_
 clear H; intro g2 w H
 refine Y.bx (cA rfl) H ?_
 clear H; intro g3 w H
 refine Y.v (Ev.asB rfl) <| Y.z <| Y.q <| Y.qr <| Y.v (Y.o H 1 rfl rfl) <| OPS.call (d := some 6) rfl rfl rfl (EvC.func (fun_run rfl)) (r42Few n hd A B C l.length ts.length ns.length ca cb cc w) ?_
 rintro _ w ⟨rfl, hb⟩
 refine ⟨_, rfl, ?_⟩
 replace H := H.toBelow hb; clear hb
 refine Y.v (Ev.not rfl) <| Y.v (Ev.mvB rfl) <| Y.g rfl rfl (fun hg => Y.o H 0 rfl rfl) <| OPS.gcall0 (f := 15) (r44Short s b AU AV us.length cu vs.length cv w) (fun _ _ h => h) rfl rfl rfl rfl rfl (fun hg => EvC.conv (EvC.func (fun_run rfl)) (l1 (gvE hg rfl))) ?_
 intro w hbc; replace H := H.toBelow hbc
 refine Y.g rfl rfl (fun hg => Ev.not (gvE hg rfl)) <| Y.v (Ev.pickOr rfl rfl rfl) <| Y.z ?_
 refine WP.cond rfl (fun hc1 => ?_) (fun hc1 => ?_)
 ·refine Y.qr <| OPS.call (d := some 13) rfl rfl rfl (EvC.func (fun_run rfl)) (lawAwakeB w) ?_
  rintro _ w ⟨rfl, hb⟩
  refine ⟨_, rfl, ?_⟩
  replace H := H.toBelow hb; clear hb
  refine Y.v (Ev.asB rfl) <| Y.z ?_
  refine WP.ret ⟨_, rfl, ?_⟩
  exact ⟨rfl, H.below⟩
 obtain ⟨_, hs1, hs2⟩ : fewB l.length ts.length ns.length = true ∧ us.length ≤ 50 ∧ vs.length ≤ 50 := by simpa using hc1
 refine Y.k <| Y.q <| WP.rquiet mixed (by kernel_rfl) H ?_
 clear H; intro w hbw3 H
 refine Y.v (Y.o H 1 rfl rfl) <| Y.v (Y.o H 0 rfl rfl) <| OPS.callq rfl rfl rfl (EvC.func (fun_run rfl)) (fun w2 hb2 => boundProvedD n hd s b A B C AU AV l ts ns us vs ca cb cc cu cv w2 ((hN.sh H).below hb2) ((hU.sh H).below hb2) ((hV.sh H).below hb2) (by omega) (by omega)) ?_
 refine Y.v (Y.o H 1 rfl rfl) <| Y.v (Y.o H 0 rfl rfl) <| OPS.callq rfl rfl rfl (EvC.func (fun_run rfl)) (fun w2 hb2 => r44ProvedD n hd s b A B C AU AV l ts ns us vs ca cb cc cu cv w2 ((hN.sh H).below hb2) ((hU.sh H).below hb2) ((hV.sh H).below hb2) (by omega) (by omega)) ?_
 refine Y.v (Ev.eqlB Try.runUnderlying4 rfl rfl) <| Y.v (Ev.mvB rfl) <| OPS.gcallq2 (f := 10) (fun hg w2 hb2 => lawAwakeB w2) rfl rfl rfl rfl rfl (fun hg => (EvC.func (fun_run rfl))) ?_
 refine Y.v (Ev.pickAnd rfl rfl rfl) <| Y.v (Ev.asB rfl) <| OPS.nilq H ?_
 clear H; intro w hbx3 H
 refine WP.ret ⟨_, rfl, ?_⟩
 exact ⟨ret_true rfl (by simp), H.below⟩
end Go.Proofs.Ytgjfjbphngamgaa

/-
 What the arguments of this seat's laws read as.
-/
set_option linter.all false
namespace Go.Proofs.Ytgjfjbphngamgaa
open Go Go.W Go.RowKit
open Go.ChangeShapes Go.WideShapes Go.ChangeAt
theorem own : ownKnob Try.prog.godebug = none := by kernel_rfl
theorem laidOut : laidOutB Try.prog = true := by kernel_rfl
section
variable {H : Type} {enc : TypeId × Value → H} {w : World} {base : Nat} {spare : Nat → Bool} {held : Bool}
theorem rdInt : Rd enc Try.prog w base spare held 3 (fun n : Int => [I n]) (fun n => (Lit.int .i64 n).wf = true) := Rd.int Try.underlying3
theorem rdInts : Rd enc Try.prog w base spare held 31 (slCells (α := Int)) (SlG w 1 (fun n => [I n]) (fun n => (Lit.int .i64 n).wf = true)) := Rd.slice Try.underlying31 (by kernel_rfl) (by decide) rdInt
theorem rdEdge3 : Rd enc Try.prog w base spare held 44 (fun p : Int × Int × Int × Unit => [I p.1] ++ ([I p.2.1] ++ ([I p.2.2.1] ++ [])))
  (fun p => (Lit.int .i64 p.1).wf = true ∧ (Lit.int .i64 p.2.1).wf = true ∧ (Lit.int .i64 p.2.2.1).wf = true ∧ True) := by
 refine Rd.struct (tot := 3) Try.underlying44 (by kernel_rfl) ?_
 exact RdF.cons (sz := 1) rdInt rfl rfl (by kernel_rfl) (RdF.cons (sz := 1) rdInt rfl rfl (by kernel_rfl) (RdF.cons (sz := 1) rdInt rfl rfl (by kernel_rfl) RdF.nil))
theorem rdEdge : Rd enc Try.prog w base spare held 44 edgCells (fun _ => True) := rdEdge3.conv (fun p => ⟨p.1, p.2.1, p.2.2.1⟩) (fun _ => rfl) (fun _ _ => trivial)
theorem rdEdges : Rd enc Try.prog w base spare held 22 (slCells (α := Edg)) (SlG w 3 edgCells (fun _ => True)) := Rd.slice Try.underlying22 (by kernel_rfl) (by decide) rdEdge
theorem rdRoad : Rd enc Try.prog w base spare held 24 (fun p : Int × SlA Edg × Unit => [I p.1] ++ (slCells p.2.1 ++ [])) (fun p => (Lit.int .i64 p.1).wf = true ∧ SlG w 3 edgCells (fun _ => True) p.2.1 ∧ True) := by
 refine Rd.struct (tot := 2) Try.underlying24 (by kernel_rfl) ?_
 exact RdF.cons (sz := 1) rdInt rfl rfl (by kernel_rfl) (RdF.cons (sz := 1) rdEdges rfl rfl (by kernel_rfl) RdF.nil)
theorem rdWin : Rd enc Try.prog w base spare held 40 (fun p : Int × Int × Unit => [I p.1] ++ ([I p.2.1] ++ [])) (fun p => (Lit.int .i64 p.1).wf = true ∧ (Lit.int .i64 p.2.1).wf = true ∧ True) := by
 refine Rd.struct (tot := 2) Try.underlying40 (by kernel_rfl) ?_
 exact RdF.cons (sz := 1) rdInt rfl rfl (by kernel_rfl) (RdF.cons (sz := 1) rdInt rfl rfl (by kernel_rfl) RdF.nil)
theorem rdTruck4 : Rd enc Try.prog w base spare held 42 (fun p : Int × Int × (Int × Int × Unit) × Unit => [I p.1] ++ ([I p.2.1] ++ (([I p.2.2.1.1] ++ ([I p.2.2.1.2.1] ++ [])) ++ [])))
  (fun p => (Lit.int .i64 p.1).wf = true ∧ (Lit.int .i64 p.2.1).wf = true ∧ ((Lit.int .i64 p.2.2.1.1).wf = true ∧ (Lit.int .i64 p.2.2.1.2.1).wf = true ∧ True) ∧ True) := by
 refine Rd.struct (tot := 4) Try.underlying42 (by kernel_rfl) ?_
 exact RdF.cons (sz := 1) rdInt rfl rfl (by kernel_rfl) (RdF.cons (sz := 1) rdInt rfl rfl (by kernel_rfl) (RdF.cons (sz := 2) rdWin rfl rfl (by kernel_rfl) RdF.nil))
theorem rdTruck : Rd enc Try.prog w base spare held 42 truckCells (fun _ => True) := rdTruck4.conv (fun p => ⟨p.1, p.2.1, p.2.2.1.1, p.2.2.1.2.1⟩) (fun _ => rfl) (fun _ _ => trivial)
theorem rdTrucks : Rd enc Try.prog w base spare held 25 (slCells (α := Truck)) (SlG w 4 truckCells (fun _ => True)) := Rd.slice Try.underlying25 (by kernel_rfl) (by decide) rdTruck
theorem rdNeed2 : Rd enc Try.prog w base spare held 48 (fun p : Int × Int × Unit => [I p.1] ++ ([I p.2.1] ++ [])) (fun p => (Lit.int .i64 p.1).wf = true ∧ (Lit.int .i64 p.2.1).wf = true ∧ True) := by
 refine Rd.struct (tot := 2) Try.underlying48 (by kernel_rfl) ?_
 exact RdF.cons (sz := 1) rdInt rfl rfl (by kernel_rfl) (RdF.cons (sz := 1) rdInt rfl rfl (by kernel_rfl) RdF.nil)
theorem rdNeed : Rd enc Try.prog w base spare held 48 needCells (fun _ => True) := rdNeed2.conv (fun p => ⟨p.1, p.2.1⟩) (fun _ => rfl) (fun _ _ => trivial)
theorem rdNeeds : Rd enc Try.prog w base spare held 26 (slCells (α := Need)) (SlG w 2 needCells (fun _ => True)) := Rd.slice Try.underlying26 (by kernel_rfl) (by decide) rdNeed
theorem rdNight5 : Rd enc Try.prog w base spare held 28 (fun p : (Int × SlA Edg × Unit) × SlA Truck × SlA Need × Int × Unit => ([I p.1.1] ++ (slCells p.1.2.1 ++ [])) ++ (slCells p.2.1 ++ (slCells p.2.2.1 ++ ([I p.2.2.2.1] ++ []))))
  (fun p => ((Lit.int .i64 p.1.1).wf = true ∧ SlG w 3 edgCells (fun _ => True) p.1.2.1 ∧ True) ∧ SlG w 4 truckCells (fun _ => True) p.2.1 ∧ SlG w 2 needCells (fun _ => True) p.2.2.1 ∧ (Lit.int .i64 p.2.2.2.1).wf = true ∧ True) := by
 refine Rd.struct (tot := 5) Try.underlying28 (by kernel_rfl) ?_
 exact RdF.cons (sz := 2) rdRoad rfl rfl (by kernel_rfl) (RdF.cons (sz := 1) rdTrucks rfl rfl (by kernel_rfl) (RdF.cons (sz := 1) rdNeeds rfl rfl (by kernel_rfl) (RdF.cons (sz := 1) rdInt rfl rfl (by kernel_rfl) RdF.nil)))
structure Ngt where
 n : Int
 E : SlA Edg
 T : SlA Truck
 N : SlA Need
 hd : Int
def ngtCells (g : Ngt) : List Value := [I g.n, .slice g.E.A g.E.l.length g.E.cap, .slice g.T.A g.T.l.length g.T.cap, .slice g.N.A g.N.l.length g.N.cap, I g.hd]
theorem rdNight : Rd enc Try.prog w base spare held 28 ngtCells (fun g => NightAt w g.E.A g.T.A g.N.A g.E.l g.T.l g.N.l g.N.cap) :=
 rdNight5.conv (fun p => ⟨p.1.1, p.1.2.1, p.2.1, p.2.2.1, p.2.2.2.1⟩) (fun _ => rfl) (fun _ h => ⟨h.1.2.1.rows, h.2.1.rows, h.2.2.1.rows, h.2.2.1.le⟩)
structure Bnd where
 s : Int
 b : Int
 U : SlA Int
 V : SlA Int
theorem rdBound4 : Rd enc Try.prog w base spare held 33 (fun p : Int × Int × SlA Int × SlA Int × Unit => [I p.1] ++ ([I p.2.1] ++ (slCells p.2.2.1 ++ (slCells p.2.2.2.1 ++ []))))
  (fun p => (Lit.int .i64 p.1).wf = true ∧ (Lit.int .i64 p.2.1).wf = true ∧ SlG w 1 (fun n => [I n]) (fun n => (Lit.int .i64 n).wf = true) p.2.2.1 ∧ SlG w 1 (fun n => [I n]) (fun n => (Lit.int .i64 n).wf = true) p.2.2.2.1 ∧ True) := by
 refine Rd.struct (tot := 4) Try.underlying33 (by kernel_rfl) ?_
 exact RdF.cons (sz := 1) rdInt rfl rfl (by kernel_rfl) (RdF.cons (sz := 1) rdInt rfl rfl (by kernel_rfl) (RdF.cons (sz := 1) rdInts rfl rfl (by kernel_rfl) (RdF.cons (sz := 1) rdInts rfl rfl (by kernel_rfl) RdF.nil)))
def bndCells (g : Bnd) : List Value := [I g.s, I g.b, .slice g.U.A g.U.l.length g.U.cap, .slice g.V.A g.V.l.length g.V.cap]
theorem rdBound : Rd enc Try.prog w base spare held 33 bndCells (fun g => IntsAt w g.U.A g.U.l ∧ IntsAt w g.V.A g.V.l) := rdBound4.conv (fun p => ⟨p.1, p.2.1, p.2.2.1, p.2.2.2.1⟩) (fun _ => rfl) (fun _ h => ⟨h.2.2.1.rows.ones, h.2.2.2.1.rows.ones⟩)
end
end Go.Proofs.Ytgjfjbphngamgaa
