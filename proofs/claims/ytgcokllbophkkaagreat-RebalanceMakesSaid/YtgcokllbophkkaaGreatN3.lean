/-
 Walk: walk of the reference's search.
-/
import Derived.Test.YtgcokllbophkkaaGreatPlus
import Derived.Test.YtgcokllbophkkaaGreatNest
import Derived.Test.YtgcokllbophkkaaGreatT8
import Derived.Test.YtgcokllbophkkaaGreatRows
import Derived.Test.YtgcokllbophkkaaGreatT18
import Derived.Test.YtgcokllbophkkaaGreatFacts
import Derived.Test.YtgcokllbophkkaaGreatB4
set_option linter.all false
set_option maxHeartbeats 4000000
namespace Go.Proofs.YtgcokllbophkkaaGreat
open Go Go.W Go.RowKit
def plc (rn : List Int) (os : List Nat) : List Int := os.map fun i => rn.getD i 0
theorem goT_now (D : Nat → Nat → Int) (hd : Int) (ns : List Need) : ∀ (o : List Int) (s : TS), (goT D hd ns o s).now = s.now + ((goT D hd ns o s).driven - s.driven) + mvL ns o * hd
 | [], s => by simp [goT, mvL]
 | i :: o, s => by
  rw [goT, goT_now D hd ns o]
  have h3 : mvL ns (i :: o) = absI (needAt ns i).move + mvL ns o := by unfold mvL; simp
  rw [h3, Int.add_mul]
  simp only [visitT]
  omega
theorem plc_take {rn : List Int} {os : List Nat} {j : Nat} (h : j < os.length) : plc rn (os.take (j + 1)) = plc rn (os.take j) ++ [rn.getD os[j] 0] := by
 unfold plc; rw [List.take_succ_eq_append_getElem h, List.map_append]; rfl
theorem rWalk (m : Nat) (hd : Int) (q : Nat) (A B C R T O X : Option Addr) (l : List Edg) (ts : List Truck) (ns : List Need) (rn : List Int) (os : List Nat) (ca cb cc cr tc oc xl xc : Nat) (al fd : Bool) (mv sc : Int) (w0 : World) (hn : RowsAt 2 needCells w0 C ns) (hr : IntsAt w0 R rn) (hq : q < ts.length) (hk : AskOk m l ts ns hd q rn)
  (hT : TabAt w0 T m l (nodesOf ns ts[q] rn)) (hO : IntsAt w0 O (os.map fun v : Nat => (v : Int))) (hos : ∀ i ∈ os, i < rn.length) (hol : os.length ≤ 6) :
  Calls Tryz.prog 86 #[.agg (srL m A B C l.length ts.length ns.length ca cb cc hd ts[q] R rn.length cr T (rn.length + 1) tc al O os.length oc fd X xl xc mv sc).toArray] w0 fun e w' => ∃ (mo se : Int) (ok op : Bool), e = .returned (.tuple #[I mo, I se, .bool ok, .bool op]) ∧
   (op = true ↔ goE (roadD m l) ts[q].cap hd ns (plc rn os) (startT ts[q]) = 0) ∧ (ok = true → op = true ∧ mo = mvL ns (plc rn os) ∧ se = (goT (roadD m l) hd ns (plc rn os) (startT ts[q])).driven + roadD m l (goT (roadD m l) hd ns (plc rn os) (startT ts[q])).at_ ts[q].depot.toNat) ∧
   (ok = true ↔ op = true ∧ homeE (roadD m l (goT (roadD m l) hd ns (plc rn os) (startT ts[q])).at_ ts[q].depot.toNat) hd ts[q] (goT (roadD m l) hd ns (plc rn os) (startT ts[q])) = 0) ∧ Below w0.heap.size w0 w' := by
 have H := SH.refl w0
 have hl6 := hk.len
 have htr := hk.ok.tr ts[q] (List.getElem_mem hq)
 have hhh := hk.ok.hh
 obtain ⟨ds, hdl, hTo, hTr⟩ := hT
 generalize htt : ts[q] = t at *
 obtain ⟨dp, hdp⟩ := Int.eq_ofNat_of_zero_le htr.1.1
 have hnl := nodesOf_len ns t rn
 rw [hnl] at hdl hTo
 unfold srL
 refine Calls.ofWP Tryz.func86 rfl Tryz.results86 Tryz.ntmps86 rfl <| Y.qr <| Y.bx (cA rfl) H ?_
 clear H; intro g1 w H
 refine Y.b rfl <| Y.b rfl <| Y.v (Ev.asB rfl) <| Y.v (Ev.asB rfl) <| Y.z <| Y.qr <| Y.b rfl <| Y.b rfl <| Y.b rfl <| Y.b rfl <| Y.b rfl <| Y.z <| Y.q <| Y.qr <| Y.b rfl <| Y.z <| WP.block <| WP.loop [2, 3, 4, 5, 6, 7, 8, 9, 11, 12, 13, 14, 15, 16, 17, 18, 19, 20, 21, 22, 23, 24, 25, 26, 27, 28, 29, 30, 31, 32, 33, 34, 35, 36, 37, 38, 39, 40, 41, 42, 43, 44, 45, 46, 47, 48, 49, 50, 51, 52, 53, 54, 55, 56, 57, 58, 59, 60, 61, 62, 63, 64, 65, 66, 67, 68, 69, 70, 71, 72, 73, 74, 75, 76, 77, 78, 79, 80, 81, 82, 83] (fun k e w' => ∃ (j a : Nat) (s : TS), j + k = os.length ∧ s = goT (roadD m l) hd ns (plc rn (os.take j)) (startT t) ∧ e 11 = I j ∧ e 6 = I a ∧ e 7 = I s.load ∧ e 8 = I s.driven ∧ e 9 = I (mvL ns (plc rn (os.take j))) ∧ (∃ h : a < (nodesOf ns t rn).length, (nodesOf ns t rn)[a] = s.at_) ∧ goE (roadD m l) t.cap hd ns (plc rn (os.take j)) (startT t) = 0 ∧ (0 ≤ s.load ∧ s.load ≤ 32) ∧ (0 ≤ s.driven ∧ s.driven ≤ 64000 * j) ∧ SH w0 [] w' [⟨g1, 102, srL m A B C l.length ts.length ns.length ca cb cc hd t R rn.length cr T (rn.length + 1) tc al O os.length oc fd X xl xc mv sc⟩]) (os.length) (⟨0, 0, startT t, by omega, rfl, rfl, rfl, rfl, rfl, rfl, ⟨by rw [hnl]; omega, rfl⟩, rfl, ⟨by show (0 : Int) ≤ 0; omega, by show (0 : Int) ≤ 32; omega⟩, ⟨by show (0 : Int) ≤ 0; omega, by show (0 : Int) ≤ _; omega⟩, H⟩) ?_
 clear H
 rintro k u w ⟨j, a, s, hkk, hs, h11, h6, h7, h8, h9, ⟨hal, han⟩, hgo, hld, hdr, H⟩
 unfold srL at H
 refine WP.know (t := 11) h11 (WP.know (t := 6) h6 (WP.know (t := 7) h7 (WP.know (t := 8) h8 (WP.know (t := 9) h9 ?_))))
 have hbd := mvL_bd (ns := ns) (fun x hx => (hk.ok.nd x hx).2.2) (plc rn (os.take j))
 have hpl0 : (plc rn (os.take j)).length = j ∨ (plc rn (os.take j)).length ≤ 6 := .inr (by unfold plc; rw [List.length_map, List.length_take]; omega)
 have hal2 : a < rn.length + 1 := by rw [hnl] at hal; exact hal
 obtain ⟨bT, oT, rfl, hcT⟩ := hTo a (by omega)
 have hrow := hTr a (by omega) hal
 rw [han] at hrow
 obtain ⟨⟨dA, dc⟩, hds⟩ : ∃ d, d = ds[a]'(by omega) := ⟨_, rfl⟩
 rw [← hds] at hcT hrow
 unfold slVr at hcT
 dsimp only at hcT hrow
 have hrd : ∀ v (h : v < (nodesOf ns t rn).length), ∃ b o, dA = some ⟨b, o, none⟩ ∧ w0.cell? ⟨b, o + v, none⟩ = some (I (roadT m l s.at_ (nodesOf ns t rn)[v])) := fun v h => by
  obtain ⟨b, o, e, hc⟩ := hrow v (by unfold rowT; simpa using h)
  exact ⟨b, o, e, by simpa [rowT] using hc⟩
 have hsm : s.at_ < m := by
  rw [← han]
  rcases Nat.eq_zero_or_pos a with h0 | h0
  ·subst h0; simp only [nodesOf, List.getElem_cons_zero]; omega
  ·obtain ⟨a', rfl⟩ : ∃ a', a = a' + 1 := ⟨a - 1, by omega⟩
   simp only [nodesOf, List.getElem_cons_succ, List.getElem_map]
   have ha' : a' < rn.length := by omega
   have h7 := hk.inr rn[a'] (List.getElem_mem ha')
   obtain ⟨p', hp'⟩ := Int.eq_ofNat_of_zero_le h7.1
   have hp2 : p' < ns.length := by omega
   rw [hp', needAt_eq hp2]
   have := (hk.ok.nd ns[p'] (List.getElem_mem hp2)).1
   omega
 refine Y.q <| Y.qr <| Y.a rfl <| Y.fa rfl rfl <| Y.j H 0 rfl rfl rfl <| Y.v (Y.n rfl) <| Y.v (Ev.lss rfl rfl) <| Y.z ?_
 refine WP.cond rfl (fun hc3 => ?_) (fun hc3 => ?_)
 ·have hlt : j < os.length := by simpa using hc3
  obtain ⟨bO, oO, rfl, hcO⟩ := hO j (by simpa using hlt)
  have hpr := hos os[j] (List.getElem_mem hlt)
  have htk := plc_take (rn := rn) hlt
  simp only [List.getElem_map] at hcO
  generalize os[j] = p at hcO hpr htk
  obtain ⟨bR, oR, rfl, hcR⟩ := hr p hpr
  have hrg : rn.getD p 0 = rn[p] := getDi hpr
  rw [hrg] at htk
  have hir := hk.inr rn[p] (List.getElem_mem hpr)
  obtain ⟨i, hi⟩ := Int.eq_ofNat_of_zero_le hir.1
  have hil : i < ns.length := by omega
  have hnd := hk.ok.nd ns[i] (List.getElem_mem hil)
  obtain ⟨bn, on, rfl, hy⟩ := hn i hil
  have hnx : p + 1 < (nodesOf ns t rn).length := by rw [hnl]; omega
  have hnn : (nodesOf ns t rn)[p + 1] = ns[i].node.toNat := by
   simp only [nodesOf, List.getElem_cons_succ, List.getElem_map]
   rw [hi, needAt_eq hil]
  obtain ⟨bD, oD, hDe, hcD⟩ := hrd (p + 1) hnx
  rw [hnn] at hcD
  rw [hi] at hcR htk
  have hgoe : goE (roadD m l) t.cap hd ns (plc rn (os.take (j + 1))) (startT t) = visitE (roadT m l s.at_ ns[i].node.toNat) t.cap ns[i] s := by
   rw [htk, goE_app, if_neg (by simp [hgo]), ← hs]
   simp only [goE, goD, roadD, Int.toNat_natCast, needAt_eq hil]
   by_cases h : visitE (roadT m l s.at_ ns[i].node.toNat) t.cap ns[i] s = 0
   ·simp [h]
   ·simp [h]
  have hgot : goT (roadD m l) hd ns (plc rn (os.take (j + 1))) (startT t) = visitT (roadT m l s.at_ ns[i].node.toNat) hd ns[i] s := by
   rw [htk, goT_app, ← hs]
   simp only [goT, goD, roadD, Int.toNat_natCast, needAt_eq hil]
  have hmv : mvL ns (plc rn (os.take (j + 1))) = mvL ns (plc rn (os.take j)) + absI ns[i].move := by rw [htk, mvL_snoc, needAt_eq hil]
  have hdb := roadT_bd hk.ok.road hsm (show ns[i].node.toNat < m by omega)
  generalize hdD : roadT m l s.at_ ns[i].node.toNat = d at *
  generalize hzz : ns[i] = z at *
  subst hDe
  obtain ⟨q1, q2, _⟩ := hy
  have hy : cellsAt w0 bn (on + i * 2) (needCells z) := ⟨q1, q2, trivial⟩
  refine Y.k <| Y.q <| WP.block <| Y.qr <| Y.fa rfl rfl <| Y.j H 0 rfl rfl rfl <| Y.a rfl <| Y.v (Y.x rfl rfl rfl rfl) <| Y.v (Y.c (H.ld0 (by assumption)) rfl) ?_
  refine Y.v (Y.p rfl rfl) <| Y.b rfl <| Y.z ?_
  rw [show ((p : Int) + 1) = ((p + 1 : Nat) : Int) by omega]
  refine Y.q ?_
  refine WP.rheldC [13, 27, 28, 29, 30, 31, 32, 33, 34, 35, 36, 37, 38, 39, 40] (fun u w' => ∃ (g13 : Nat), u 13 = .pointer (some ⟨g13, 0, none⟩) ∧ SH w0 [] w' [⟨g13, 68, needCells z⟩, ⟨g1, 102, srL m A B (some ⟨bn, on, none⟩) l.length ts.length ns.length ca cb cc hd t (some ⟨bR, oR, none⟩) rn.length cr (some ⟨bT, oT, none⟩) (rn.length + 1) tc al (some ⟨bO, oO, none⟩) os.length oc fd X xl xc mv sc⟩]) mixed H ?_ ?_
  ·clear H; intro w hbw6 H
   refine Y.t 0 H rfl rfl (fun w H => Y.f rfl rfl) <| Y.t 1 H rfl rfl (fun w H => Y.f rfl rfl) <| Y.t 2 H rfl rfl (fun w H => Y.l H 0 rfl rfl rfl) <| Y.t 3 H rfl rfl (fun w H => Y.f rfl rfl) <| Y.t 4 H rfl rfl (fun w H => Y.l H 0 rfl rfl rfl) <| Y.t 5 H rfl rfl (fun w H => Y.f rfl rfl) <| Y.t 6 H rfl rfl (fun w H => Y.l H 0 rfl rfl rfl) <| Y.t 7 H rfl rfl (fun w H => Y.m rfl) <| Y.t 8 H rfl rfl (fun w H => Y.x rfl rfl rfl rfl) <| Y.t 9 H rfl rfl (fun w H => Y.c (H.ld0 (by assumption)) rfl) ?_
   refine Y.t 10 H rfl rfl (fun w H => Y.x rfl rfl rfl rfl) <| Y.t 11 H rfl rfl (fun w H => Y.c (H.ld0 (by assumption)) rfl) ?_
   refine Y.t 12 H rfl rfl (fun w H => Y.X rfl rfl rfl rfl rfl) ?_
   refine OPH.take 13 rfl rfl rfl rfl (by kernel_rfl) (by kernel_rfl) (by kernel_rfl) rfl (by exact H) (fun w H => (by refine Ev.loadN (b := bn) (o := on + i * 2) (needCells z) ?_ ?_ ?_ (cellsAt_sh H hy); exact agg_run rfl; exact size_run rfl; rfl)) ?_
   refine Y.A1 14 rfl rfl <| Y.al H rfl rfl ?_
   clear H; intro g13 w E
   have H := E.drop (List.sublist_cons_self _ _)
   refine Y.z <| ⟨(H), ?_⟩
   refine Y.A1 15 rfl rfl <| OPS.store (vs := needCells z) 0 _ rfl rfl rfl (size_run rfl) rfl (cA rfl) rfl rfl E rfl (by simp) ?_
   clear H E; intro w E
   have H := E.drop (List.sublist_cons_self _ _)
   refine Y.z <| ⟨(H), ?_⟩
   refine Y.dn ?_
   exact ⟨Y.ag, g13, rfl, E⟩
  clear H
  rintro u w ⟨g13, h13, H⟩
  unfold srL at H
  refine WP.know (t := 13) h13 <| Y.qr <| Y.a rfl <| Y.fa rfl rfl <| Y.j H 0 rfl rfl rfl <| Y.v (Y.p rfl rfl) <| Y.b rfl <| Y.z <| Y.q <| Y.qr <| Y.fa rfl rfl <| Y.j H 1 rfl rfl rfl <| Y.a rfl <| Y.v (Y.x rfl rfl rfl rfl) <| Y.v (Y.c (H.ld0 (by assumption)) rfl) ?_
  refine Y.a rfl <| Y.v (Y.x rfl rfl rfl rfl) <| Y.v (Y.c (H.ld0 (by assumption)) rfl) ?_
  refine Y.v (Ev.lss rfl rfl) <| Y.v (Ev.mvB rfl) <| Y.g rfl rfl (fun hg => Y.m rfl) <| Y.g rfl rfl (fun hg => Ev.lss (gvE hg rfl) rfl) <| Y.v (Ev.pickOr rfl rfl rfl) <| Y.v (Ev.mvB rfl) <| Y.g rfl rfl (fun hg => Y.m rfl) <| Y.g rfl rfl (fun hg => Y.f rfl rfl) <| Y.g rfl rfl (fun hg => Ev.fieldAddr (fld_run rfl) (gvE hg rfl)) <| Y.y rfl rfl H 1 (fun hg => gvE hg rfl) rfl rfl <| Y.g rfl rfl (fun hg => Ev.gtr (gvE hg rfl) (gvE hg rfl)) <| Y.v (Ev.pickOr rfl rfl rfl) <| Y.z ?_
  refine WP.cond rfl (fun hc8 => ?_) (fun hc8 => ?_)
  ·refine Y.qr <| Y.b rfl <| Y.b rfl <| Y.v (Ev.asB rfl) <| Y.v (Ev.asB rfl) <| Y.z ?_
   refine WP.ret ⟨_, rfl, ?_⟩
   have hv : visitE d t.cap z s ≠ 0 := by
    unfold visitE inB
    by_cases hd0 : d < 0
    ·rw [if_pos hd0]; decide
    ·rw [if_neg hd0, if_neg]
     ·decide
     ·simp at hc8 ⊢; omega
   have hfull : goE (roadD m l) t.cap hd ns (plc rn os) (startT t) ≠ 0 := by
    rw [show plc rn os = plc rn (os.take (j + 1)) ++ plc rn (os.drop (j + 1)) by unfold plc; rw [← List.map_append, List.take_append_drop], goE_app, hgoe, if_pos hv]; exact hv
   exact ⟨0, 0, false, false, rfl, by simp [hfull], by simp, by simp, H.below⟩
  have hb8 : ¬ d < 0 ∧ 0 ≤ s.load + z.move ∧ s.load + z.move ≤ t.cap := by simp at hc8; omega
  have hv : visitE d t.cap z s = 0 := by
   unfold visitE inB
   rw [if_neg hb8.1, if_pos]
   simp; omega
  refine Y.k <| Y.qr <| Y.a rfl <| Y.fa rfl rfl <| Y.j H 1 rfl rfl rfl <| Y.a rfl <| Y.v (Y.x rfl rfl rfl rfl) <| Y.v (Y.c (H.ld0 (by assumption)) rfl) ?_
  refine Y.a rfl <| Y.v (Y.x rfl rfl rfl rfl) <| Y.v (Y.c (H.ld0 (by assumption)) rfl) ?_
  refine Y.v (Y.p rfl rfl) <| Y.b rfl <| Y.z <| Y.qr <| Y.a rfl <| Y.fa rfl rfl <| Y.j H 0 rfl rfl rfl <| Y.fa rfl rfl <| Y.j H 0 rfl rfl rfl <| Y.v (Ev.neg rfl (by unfold fits; omega)) <| Y.v (Ev.max rfl rfl) <| Y.v (Y.p rfl rfl) <| Y.b rfl <| Y.z <| Y.r <| Y.a rfl <| Y.b rfl <| Y.z <| Y.r <| Y.a rfl <| Y.v (Y.p rfl rfl) <| Y.b rfl <| Y.z ?_
  exact ⟨Y.ag, k - 1, by omega, j + 1, p + 1, visitT d hd z s, by omega, hgot.symm, rfl, rfl, rfl, rfl, (by rw [hmv]; rfl), ⟨hnx, hnn⟩, by rw [hgoe]; exact hv, ⟨hb8.2.1, by show s.load + z.move ≤ 32; omega⟩, ⟨by show 0 ≤ s.driven + d; omega, by show s.driven + d ≤ _; omega⟩, H.drop (List.sublist_cons_self _ _)⟩
 have hj : j = os.length := by simp at hc3; omega
 subst hj
 rw [List.take_length] at hs hgo hbd hpl0
 rw [List.take_length]
 have hpl6 : (plc rn os).length ≤ 6 := by unfold plc; rw [List.length_map]; omega
 have hm0 : 0 ≤ (mvL ns (plc rn os) + s.load) * hd := Int.mul_nonneg (by omega) hhh.1
 have hm1 : (mvL ns (plc rn os) + s.load) * hd ≤ 1000000 := by
  calc (mvL ns (plc rn os) + s.load) * hd ≤ 224 * hd := Int.mul_le_mul_of_nonneg_right (by omega) hhh.1
   _ ≤ 1000000 := by omega
 have hmd : (mvL ns (plc rn os) + s.load) * hd = mvL ns (plc rn os) * hd + s.load * hd := Int.add_mul _ _ _
 have hnow := goT_now (roadD m l) hd ns (plc rn os) (startT t)
 rw [← hs] at hnow
 have hst : (startT t).now = t.from_ ∧ (startT t).driven = 0 := ⟨rfl, rfl⟩
 obtain ⟨bD, oD, hDe, hcD⟩ := hrd 0 (by omega)
 have hn0 : (nodesOf ns t rn)[0]'(by omega) = t.depot.toNat := rfl
 rw [hn0] at hcD
 have hdd : roadD m l s.at_ t.depot.toNat = roadT m l s.at_ t.depot.toNat := rfl
 have hdb := roadT_bd hk.ok.road hsm (show t.depot.toNat < m by omega)
 rw [← hs, hdd]
 generalize roadT m l s.at_ t.depot.toNat = d at *
 subst hDe
 refine WP.exit <| XB.hit <| Y.qr <| Y.a rfl <| Y.a rfl <| Y.v (Y.p rfl rfl) <| Y.fa rfl rfl <| Y.fa rfl rfl <| Y.j H 0 rfl rfl rfl <| Y.v (Ev.mul rfl rfl (by unfold fits; omega)) <| Y.b rfl <| Y.z <| Y.q <| Y.qr <| Y.fa rfl rfl <| Y.j H 0 rfl rfl rfl <| Y.a rfl <| Y.v (Y.x rfl rfl rfl rfl) <| Y.v (Y.c (H.ld0 (by assumption)) rfl) ?_
 refine Y.v (Ev.indexAddr1 (j := 0) (el_run rfl) (size_run rfl) rfl rfl rfl (by omega)) <| Y.v (Y.c (H.ld0 (by assumption)) rfl) ?_
 refine Y.v (Ev.lss rfl rfl) <| Y.z ?_
 refine WP.cond rfl (fun hc14 => ?_) (fun hc14 => ?_)
 ·refine Y.qr <| Y.b rfl <| Y.b rfl <| Y.v (Ev.asB rfl) <| Y.v (Ev.asB rfl) <| Y.z ?_
  refine WP.ret ⟨_, rfl, ?_⟩
  have hd0 : d < 0 := by simpa using hc14
  exact ⟨0, 0, false, true, rfl, by simp [hgo], by simp, by unfold homeE; simp [hd0], H.below⟩
 have hd0 : ¬ d < 0 := by simpa using hc14
 refine Y.k <| Y.qr <| Y.a rfl <| Y.fa rfl rfl <| Y.j H 0 rfl rfl rfl <| Y.a rfl <| Y.v (Y.x rfl rfl rfl rfl) <| Y.v (Y.c (H.ld0 (by assumption)) rfl) ?_
 refine Y.v (Ev.indexAddr1 (j := 0) (el_run rfl) (size_run rfl) rfl rfl rfl (by omega)) <| Y.v (Y.c (H.ld0 (by assumption)) rfl) ?_
 refine Y.v (Y.p rfl rfl) <| Y.b rfl <| Y.z <| Y.q <| WP.rstill mixed (by kernel_rfl) H ?_
 clear H; intro w hbw17 H
 refine Y.a rfl <| Y.a rfl <| Y.fa rfl rfl <| Y.fa rfl rfl <| Y.fa rfl rfl <| Y.j H 0 rfl rfl rfl <| Y.a rfl <| Y.v (Y.p rfl rfl) <| Y.a rfl <| Y.v (Y.p rfl rfl) <| Y.fa rfl rfl <| Y.fa rfl rfl <| Y.fa rfl rfl <| Y.j H 0 rfl rfl rfl <| Y.v (Ev.leq rfl rfl) <| Y.b rfl <| Y.b rfl <| Y.v (Ev.asB rfl) <| Y.v (Ev.asB rfl) <| OPS.nil_s ?_
 refine WP.ret ⟨_, rfl, ?_⟩
 refine ⟨_, _, _, _, rfl, by simp [hgo], fun _ => ⟨rfl, rfl, rfl⟩, ?_, H.below⟩
 unfold homeE
 rw [if_neg hd0]
 simp
 omega
end Go.Proofs.YtgcokllbophkkaaGreat
namespace Go.Proofs.YtgcokllbophkkaaGreat
open Go Go.W Go.RowKit
theorem rNumbers (n hd : Int) (A B C R T O X : Option Addr) (ll tl nl : Nat) (t : Truck) (rn : List Int) (os : List Nat) (ca cb cc cr tn tc oc xl xc : Nat) (al fd : Bool) (mv sc : Int) (w0 : World) (hr : IntsAt w0 R rn) (hO : IntsAt w0 O (os.map fun v : Nat => (v : Int))) (hos : ∀ i ∈ os, i < rn.length) (hol : os.length ≤ 6) :
  Calls Tryz.prog 87 #[.agg (srL n A B C ll tl nl ca cb cc hd t R rn.length cr T tn tc al O os.length oc fd X xl xc mv sc).toArray] w0 fun e w' => ∃ (V : Option Addr) (c : Nat) (L : List Blk), e = .returned (.slice V os.length c) ∧ OwnS V c os.length ((plc rn os).map I) 3 1 L ∧ SH w0 [] w' L := by
 have H := SH.refl w0
 unfold srL
 refine Calls.ofWP Tryz.func87 rfl Tryz.results87 Tryz.ntmps87 rfl <| Y.qr <| Y.bx (cA rfl) H ?_
 clear H; intro g1 w H
 refine Y.v (Ev.asS rfl) <| Y.z <| Y.qr <| Y.v (Ev.asS rfl) <| Y.z <| Y.q <| Y.qr <| Y.b rfl <| Y.z <| WP.block <| WP.loop [3, 4, 5, 6, 7, 8, 9, 10, 11, 12, 13, 14, 15, 16, 17, 18, 19, 20, 21, 22, 23] (fun k e w' => ∃ (j : Nat) (V : Option Addr) (c : Nat) (L : List Blk), j + k = os.length ∧ e 4 = I j ∧ e 3 = .slice V j c ∧ OwnS V c j ((plc rn (os.take j)).map I) 3 1 L ∧ SH w0 [] w' ([⟨g1, 102, srL n A B C ll tl nl ca cb cc hd t R rn.length cr T tn tc al O os.length oc fd X xl xc mv sc⟩] ++ L)) (os.length) (⟨0, none, 0, [], by omega, rfl, rfl, OwnS.nil, H⟩) ?_
 clear H
 rintro k u w ⟨j, V, c, L, hkk, h4, h3, hOV, H⟩
 unfold srL at H
 refine WP.know (t := 4) h4 (WP.know (t := 3) h3 ?_)
 refine Y.q <| Y.qr <| Y.a rfl <| Y.fa rfl rfl <| Y.j H 0 rfl rfl rfl <| Y.v (Y.n rfl) <| Y.v (Ev.lss rfl rfl) <| Y.z ?_
 refine WP.cond rfl (fun hc3 => ?_) (fun hc3 => ?_)
 ·have hlt : j < os.length := by simpa using hc3
  obtain ⟨bO, oO, rfl, hcO⟩ := hO j (by simpa using hlt)
  have hpr := hos os[j] (List.getElem_mem hlt)
  have htk := plc_take (rn := rn) hlt
  simp only [List.getElem_map] at hcO
  generalize os[j] = p at hcO hpr htk
  obtain ⟨bR, oR, rfl, hcR⟩ := hr p hpr
  have hrg : rn.getD p 0 = rn[p] := getDi hpr
  rw [hrg] at htk
  have Hf := H
  replace H := H.drop (L' := [_]) (List.sublist_append_left _ _)
  refine Y.k <| Y.q <| WP.block ?_
  refine WP.rheldC [3, 12, 13, 14, 15, 16, 17, 18, 19, 20, 21, 22, 23] (fun u w' => ∃ (V : Option Addr) (c : Nat) (L : List Blk), u 3 = .slice V (j + 1) c ∧ OwnS V c (j + 1) ((plc rn (os.take j)).map I ++ [I rn[p]]) 3 1 L ∧ SH w0 [] w' ([⟨g1, 102, srL n A B C ll tl nl ca cb cc hd t (some ⟨bR, oR, none⟩) rn.length cr T tn tc al (some ⟨bO, oO, none⟩) os.length oc fd X xl xc mv sc⟩] ++ L)) mixed H ?_ ?_
  ·clear H; intro w hbw5 H
   refine Y.t 0 H rfl rfl (fun w H => Ev.mvS rfl) <| Y.t 1 H rfl rfl (fun w H => Y.f rfl rfl) <| Y.t 2 H rfl rfl (fun w H => Y.l H 0 rfl rfl rfl) <| Y.t 3 H rfl rfl (fun w H => Y.f rfl rfl) <| Y.t 4 H rfl rfl (fun w H => Y.l H 0 rfl rfl rfl) <| Y.t 5 H rfl rfl (fun w H => Y.m rfl) <| Y.t 6 H rfl rfl (fun w H => Y.x rfl rfl rfl rfl) <| Y.t 7 H rfl rfl (fun w H => Y.c (H.ld0 (by assumption)) rfl) ?_
   refine Y.t 8 H rfl rfl (fun w H => Y.x rfl rfl rfl rfl) <| Y.t 9 H rfl rfl (fun w H => Y.c (H.ld0 (by assumption)) rfl) ?_
   refine Y.A1 10 rfl rfl <| OPS.buildSlice rfl rfl rfl rfl (bsl_32_1_0 rfl) (Hf.toBelow hbw5) ?_
   clear H; intro g22 w E; clear Hf
   have H := (Y.d1 E).drop (L' := [_]) (List.sublist_append_left _ _)
   refine Y.z <| ⟨(H), ?_⟩
   refine Y.A1 11 rfl rfl <| OPS.append (m := 1) (news := [I rn[p]]) (R := ⟨g22, 3, [I rn[p]]⟩ :: [⟨g1, 102, srL n A B C ll tl nl ca cb cc hd t (some ⟨bR, oR, none⟩) rn.length cr T tn tc al (some ⟨bO, oO, none⟩) os.length oc fd X xl xc mv sc⟩]) rfl rfl rfl rfl rfl (sl_run rfl) rfl rfl hOV rfl (src_own E 0 rfl) rfl (by omega) (by unfold maxLen; omega) E (List.Perm.refl _) ?_
   clear H hOV; intro V c L w hOV Hf; clear E
   replace Hf := Hf.drop (List.sublist_cons_self _ _)
   have H := Hf.drop (L' := [_]) (List.sublist_append_left _ _)
   refine Y.z <| ⟨(H), ?_⟩
   refine Y.t 12 H rfl rfl (fun w H => Ev.asS rfl) <| Y.dn ?_
   exact ⟨Y.ag, V, c, L, rfl, hOV, Hf⟩
  clear H
  rintro u w ⟨V, c, L, h3, hOV, H⟩
  refine WP.know (t := 3) h3 <| Y.r <| Y.a rfl <| Y.v (Y.p rfl rfl) <| Y.b rfl <| Y.z ?_
  exact ⟨Y.ag, k - 1, by omega, j + 1, V, c, L, by omega, rfl, rfl, by rw [htk, List.map_append]; exact hOV, H⟩
 refine WP.exit <| XB.hit <| Y.qr <| Y.v (Ev.mvS rfl) <| Y.v (Ev.asS rfl) <| Y.z ?_
 refine WP.ret ⟨_, rfl, ?_⟩
 have hj : j = os.length := by simp at hc3; omega
 subst hj
 rw [List.take_length] at hOV
 exact ⟨V, c, L, rfl, hOV, H.drop (List.sublist_append_right _ _)⟩
end Go.Proofs.YtgcokllbophkkaaGreat
namespace Go.Proofs.YtgcokllbophkkaaGreat
open Go Go.W Go.RowKit
section
variable (n : Int) (l : List Edg) (ts : List Truck) (ns : List Need) (hd rt : Int) (rn : List Int) (al : Bool)
def ExtP (os : List Nat) (o : List Int) : Prop := ∃ os' : List Nat, os <+: os' ∧ os'.Nodup ∧ (∀ i ∈ os', i < rn.length) ∧ (al = true → os'.length = rn.length) ∧ o = plc rn os' ∧ walkE n l ts ns hd rt o = 0
def OwnP (os : List Nat) (o : List Int) : Prop := (al = true → os.length = rn.length) ∧ o = plc rn os ∧ walkE n l ts ns hd rt o = 0
variable {n l ts ns hd rt rn al}
theorem ext_split {os : List Nat} (hnd : os.Nodup) (hin : ∀ i ∈ os, i < rn.length) (o : List Int) : ExtP n l ts ns hd rt rn al os o ↔ OwnP n l ts ns hd rt rn al os o ∨ ∃ i, i < rn.length ∧ i ∉ os ∧ ExtP n l ts ns hd rt rn al (os ++ [i]) o := by
 constructor
 ·rintro ⟨os', ⟨t, rfl⟩, h1, h2, h3, h4, h5⟩
  cases t with
  | nil => rw [List.append_nil] at *; exact .inl ⟨h3, h4, h5⟩
  | cons i t =>
   refine .inr ⟨i, h2 i (by simp), fun hm => ?_, os ++ i :: t, ⟨t, by simp⟩, h1, h2, h3, h4, h5⟩
   rw [List.nodup_append] at h1
   exact h1.2.2 i hm i (by simp) rfl
 ·rintro (⟨h1, h2, h3⟩ | ⟨i, hi, hni, os', ⟨t, rfl⟩, h1, h2, h3, h4, h5⟩)
  ·exact ⟨os, List.prefix_refl _, hnd, hin, h1, h2, h3⟩
  ·exact ⟨os ++ [i] ++ t, ⟨[i] ++ t, by simp⟩, h1, h2, h3, h4, h5⟩
end
theorem plc_nodup {rn : List Int} (hr : rn.Nodup) : ∀ {os : List Nat}, (∀ i ∈ os, i < rn.length) → ((plc rn os).Nodup ↔ os.Nodup) := fun {os} h => by
 unfold plc
 rw [List.nodup_iff_pairwise_ne, List.nodup_iff_pairwise_ne, List.pairwise_map]
 constructor
 ·intro hp
  exact hp.imp fun hne he => hne (by rw [he])
 ·intro hp
  refine List.Pairwise.imp_of_mem ?_ hp
  intro a b ha hb hne he
  rw [getDi (h a ha), getDi (h b hb)] at he
  exact hne ((List.getElem_inj hr).1 he)
theorem plc_mem {rn : List Int} {os : List Nat} (h : ∀ i ∈ os, i < rn.length) : ∀ x ∈ plc rn os, x ∈ rn := fun x hx => by
 obtain ⟨i, hi, rfl⟩ := List.mem_map.1 hx
 show rn.getD i 0 ∈ rn
 rw [getDi (h i hi)]; exact List.getElem_mem _
theorem plc_of {rn : List Int} : ∀ (o : List Int), (∀ x ∈ o, x ∈ rn) → ∃ os : List Nat, (∀ i ∈ os, i < rn.length) ∧ o = plc rn os
 | [], _ => ⟨[], by simp, rfl⟩
 | x :: o, h => by
  obtain ⟨os, h1, rfl⟩ := plc_of o fun y hy => h y (List.mem_cons_of_mem _ hy)
  obtain ⟨i, hi, he⟩ := List.mem_iff_getElem.1 (h x List.mem_cons_self)
  refine ⟨i :: os, fun j hj => ?_, by unfold plc; rw [List.map_cons, getDi hi, he]⟩
  rcases List.mem_cons.1 hj with rfl | hj
  ·exact hi
  ·exact h1 j hj
section
variable {m : Nat} {l : List Edg} {ts : List Truck} {ns : List Need} {hd rt : Int} {rn : List Int}
theorem ext_some (hk : AskOk m l ts ns hd rt rn) (o : List Int) : ExtP m l ts ns hd rt rn false [] o ↔ SubP m l ts ns hd rt rn o := by
 unfold ExtP SubP
 constructor
 ·rintro ⟨os, _, h1, h2, _, rfl, h5⟩
  exact ⟨⟨(plc_nodup hk.nd h2).2 h1, plc_mem h2⟩, h5⟩
 ·rintro ⟨⟨h1, h2⟩, h3⟩
  obtain ⟨os, h4, rfl⟩ := plc_of (rn := rn) o h2
  exact ⟨os, List.nil_prefix, (plc_nodup hk.nd h4).1 h1, h4, (fun h => absurd h (by simp)), rfl, h3⟩
end
end Go.Proofs.YtgcokllbophkkaaGreat
namespace Go.Proofs.YtgcokllbophkkaaGreat
open Go Go.W Go.RowKit
section
variable {m : Nat} {l : List Edg} {ts : List Truck} {ns : List Need} {hd : Int} {q : Nat} {rn : List Int}
theorem AskOk.route (hk : AskOk m l ts ns hd q rn) {o : List Int} (h1 : o.Nodup) (h2 : ∀ i ∈ o, i ∈ rn) : routeErr ts ns q o = 0 := by
 have ht := hk.tr
 unfold routeErr
 rw [if_neg, if_neg (by unfold twiceB; simpa using h1)]
 rintro (h | h)
 ·rw [outB_or] at h; simp at h; omega
 ·obtain ⟨i, h3, h4⟩ := List.any_eq_true.1 h
  have := hk.inr i (h2 i h3)
  rw [outB_or] at h4; simp at h4; omega
theorem walkE_iff (hk : AskOk m l ts ns hd q rn) (hq : q < ts.length) {o : List Int} (h1 : o.Nodup) (h2 : ∀ i ∈ o, i ∈ rn) :
  walkE m l ts ns hd q o = 0 ↔ goE (roadD m l) ts[q].cap hd ns o (startT ts[q]) = 0 ∧ homeE (roadD m l (goT (roadD m l) hd ns o (startT ts[q])).at_ ts[q].depot.toNat) hd ts[q] (goT (roadD m l) hd ns o (startT ts[q])) = 0 := by
 have hgt : ts.getD (q : Int).toNat default = ts[q] := by simp [hq]
 rw [walkE, if_neg (by rw [hk.night]; decide), if_neg (by rw [hk.route h1 h2]; decide)]
 unfold endT
 rw [hgt]
 by_cases hg : goE (roadD m l) ts[q].cap hd ns o (startT ts[q]) = 0
 ·simp [hg]
 ·simp [hg]
theorem secsD_eq (hq : q < ts.length) {o : List Int} (h : walkE m l ts ns hd q o = 0) : secsD m l ts ns hd q o = (goT (roadD m l) hd ns o (startT ts[q])).driven + roadD m l (goT (roadD m l) hd ns o (startT ts[q])).at_ ts[q].depot.toNat := by
 have hgt : ts.getD (q : Int).toNat default = ts[q] := by simp [hq]
 unfold secsD
 rw [outD, if_pos h]
 unfold walkT endT
 rw [hgt]; rfl
theorem ext_closed (hk : AskOk m l ts ns hd q rn) (hq : q < ts.length) {al : Bool} {os : List Nat} (hg : goE (roadD m l) ts[q].cap hd ns (plc rn os) (startT ts[q]) ≠ 0) (o : List Int) : ¬ ExtP m l ts ns hd q rn al os o := by
 rintro ⟨os', ⟨t, rfl⟩, h1, h2, _, rfl, h5⟩
 have h6 := (walkE_iff hk hq ((plc_nodup hk.nd h2).2 h1) (plc_mem h2)).1 h5
 have h7 : plc rn (os ++ t) = plc rn os ++ plc rn t := by unfold plc; rw [List.map_append]
 rw [h7, goE_app, if_pos hg] at h6
 exact hg h6.1
end
end Go.Proofs.YtgcokllbophkkaaGreat
namespace Go.Proofs.YtgcokllbophkkaaGreat
open Go Go.W Go.RowKit
def StOk (n : Int) (l : List Edg) (ts : List Truck) (ns : List Need) (hd rt : Int) (s : Option (List Int)) (fd : Bool) (xl : Nat) (mv sc : Int) : Prop :=
 match s with
 | none => fd = false
 | some x => fd = true ∧ xl = x.length ∧ mv = mvL ns x ∧ sc = secsD n l ts ns hd rt x
def Kept (s s' : Option (List Int)) (X X' : Option Addr) (L : List Blk) : Prop :=
 (s' = s ∧ X' = X) ∨ ∀ x, s' = some x → Reads L (fun w => IntsAt w X' x)
theorem TabAt.below {w w' : World} {T : Option Addr} {m : Nat} {l : List Edg} {nodes : List Nat} (h : TabAt w T m l nodes) (hb : Below w.heap.size w w') : TabAt w' T m l nodes := by
 obtain ⟨ds, h1, h2, h3⟩ := h
 exact ⟨ds, h1, h2.below hb, fun i h4 h5 => (h3 i h4 h5).below hb⟩
theorem Kept.read {s s' : Option (List Int)} {X X' : Option Addr} {L L' : List Blk} {w0 w : World} (h : Kept s s' X X' L) (hX : ∀ x, s = some x → IntsAt w0 X x) (H : SH w0 [] w L') (hs : L.Sublist L') : ∀ x, s' = some x → IntsAt w X' x := fun x hx => by
 rcases h with ⟨rfl, rfl⟩ | h
 ·exact (hX x hx).sh H
 ·exact (h x hx).at H hs
theorem Kept.more {s s' : Option (List Int)} {X X' : Option Addr} {L L' : List Blk} (h : Kept s s' X X' L) (hs : L.Sublist L') : Kept s s' X X' L' := by
 rcases h with h | h
 ·exact .inl h
 ·exact .inr fun x hx _ _ _ H => h x hx _ _ _ (H.drop hs)
theorem Kept.step {s s1 s2 : Option (List Int)} {X X1 X2 : Option Addr} {L1 L2 : List Blk} (h1 : Kept s s1 X X1 L1) (h2 : Kept s1 s2 X1 X2 L2) : Kept s s2 X X2 (L1 ++ L2) := by
 rcases h2 with ⟨rfl, rfl⟩ | h2
 ·exact h1.more (List.sublist_append_left _ _)
 ·exact .inr fun x hx _ _ _ H => h2 x hx _ _ _ (H.drop (List.sublist_append_right _ _))
theorem bet_some (m d : List Int → Int) (s : Option (List Int)) (x : List Int) : bet m d s (some x) = if (∀ y, s = some y → worse m d y x) then some x else s := by
 cases s with
 | none => simp [bet]
 | some y => simp [bet]
def TryOk (m : Nat) (hd : Int) (q : Nat) (A B C R T : Option Addr) (l : List Edg) (ts : List Truck) (ns : List Need) (rn : List Int) (ca cb cc cr tc : Nat) (al : Bool) (t : Truck) (os : List Nat) : Prop :=
 ∀ (s : Option (List Int)) (Cd : List Int → Prop) (O X : Option Addr) (oc xl xc : Nat) (fd : Bool) (mv sc : Int) (w0 : World),
  RowsAt 2 needCells w0 C ns → IntsAt w0 R rn → TabAt w0 T m l (nodesOf ns t rn) → IntsAt w0 O (os.map fun v : Nat => (v : Int)) →
  StOk m l ts ns hd q s fd xl mv sc → (∀ x, s = some x → IntsAt w0 X x) → (∀ x, s = some x → x.length ≤ 6) → IsBest (mvL ns) (secsD m l ts ns hd q) Cd s →
  Calls Tryz.prog 58 #[.agg (srL m A B C l.length ts.length ns.length ca cb cc hd t R rn.length cr T (rn.length + 1) tc al O os.length oc fd X xl xc mv sc).toArray] w0 fun e w' =>
   ∃ (s' : Option (List Int)) (fd' : Bool) (O' X' : Option Addr) (ol' oc' xl' xc' : Nat) (mv' sc' : Int) (L' : List Blk), e = .returned (.agg (srL m A B C l.length ts.length ns.length ca cb cc hd t R rn.length cr T (rn.length + 1) tc al O' ol' oc' fd' X' xl' xc' mv' sc').toArray) ∧
    StOk m l ts ns hd q s' fd' xl' mv' sc' ∧ (∀ x, s' = some x → x.length ≤ 6) ∧ IsBest (mvL ns) (secsD m l ts ns hd q) (fun o => Cd o ∨ ExtP m l ts ns hd q rn al os o) s' ∧ Kept s s' X X' L' ∧ SH w0 [] w' L'
theorem rTryStep (m : Nat) (hd : Int) (q : Nat) (A B C R T : Option Addr) (l : List Edg) (ts : List Truck) (ns : List Need) (rn : List Int) (ca cb cc cr tc : Nat) (al : Bool) (hq : q < ts.length) (hk : AskOk m l ts ns hd q rn)
  (os : List Nat) (hnd : os.Nodup) (hin : ∀ i ∈ os, i < rn.length) (hol : os.length ≤ 6)
  (ih : ∀ i, i < rn.length → i ∉ os → TryOk m hd q A B C R T l ts ns rn ca cb cc cr tc al ts[q] (os ++ [i])) : TryOk m hd q A B C R T l ts ns rn ca cb cc cr tc al ts[q] os := by
 intro s Cd O X oc xl xc fd mv sc w0 hn hr hT hO hst hX hX6 hbs
 have H := SH.refl w0
 have hl6 := hk.len
 have hw := fun w hn hr hT hO => rWalk m hd q A B C R T O X l ts ns rn os ca cb cc cr tc oc xl xc al fd mv sc w hn hr hq hk hT hO hin hol
 have hpl : (plc rn os).length = os.length := by unfold plc; rw [List.length_map]
 unfold srL
 unfold srL at hw
 refine Calls.ofWPc Tryz.func58 rfl Tryz.results58 Tryz.ntmps58 rfl <| Y.qr <| Y.bx (cA rfl) H ?_
 clear H; intro g1 w H
 refine Y.al H rfl rfl ?_
 clear H; intro g2 w H
 refine Y.z <| Y.qr <| Y.v (Y.o H 1 rfl rfl) <| OPS.call (d := some 14) rfl rfl rfl (EvC.func (fun_run rfl)) (hw w (hn.sh H) (hr.sh H) (hT.below H.below) (hO.sh H)) ?_
 rintro _ w ⟨mo, se, ok, op, rfl, hop, hok1, hok2, hb⟩
 refine ⟨_, rfl, ?_⟩
 replace H := H.toBelow hb
 clear hb hw
 refine Y.v (Ev.mvT rfl) <| Y.v (Ev.extract rfl rfl) <| Y.v (Ev.extract rfl rfl) <| Y.v (Ev.extract rfl rfl) <| Y.v (Ev.extract rfl rfl) <| Y.b rfl <| Y.b rfl <| Y.v (Ev.asB rfl) <| Y.v (Ev.asB rfl) <| Y.z <| Y.q <| Y.qr <| Y.v (Ev.mvB rfl) <| Y.v (Ev.not rfl) <| Y.z ?_
 refine WP.cond rfl (fun hc2 => ?_) (fun hc2 => ?_)
 ·refine Y.qr <| Y.v (Y.o H 1 rfl rfl) <| Y.ss 0 H rfl (cA rfl) rfl ?_
  clear H; intro w H
  refine Y.z ?_
  refine WP.ret ⟨[_], ⟨(by exact resCellA 0 H rfl (agg_run rfl) (size_run rfl) (by rfl) rfl), trivial⟩, ?_⟩
  have hgo : goE (roadD m l) ts[q].cap hd ns (plc rn os) (startT ts[q]) ≠ 0 := fun h => by
   rw [hop.2 h] at hc2; cases hc2
  exact ⟨s, fd, O, X, os.length, oc, xl, xc, mv, sc, [], rfl, hst, hX6, hbs.congr (fun o => by simp [ext_closed hk hq hgo o]), .inl ⟨rfl, rfl⟩, H.drop (List.nil_sublist _)⟩
 have hgo : goE (roadD m l) ts[q].cap hd ns (plc rn os) (startT ts[q]) = 0 := hop.1 (by simpa using hc2)
 have hwe := walkE_iff hk hq ((plc_nodup hk.nd hin).2 hnd) (plc_mem hin)
 refine Y.k <| Y.q <| Y.qr <| Y.v (Ev.mvB rfl) <| Y.v (Ev.mvB rfl) <| Y.g rfl rfl (fun hg => Y.f rfl rfl) <| Y.y rfl rfl H 1 (fun hg => gvE hg rfl) rfl rfl <| Y.g rfl rfl (fun hg => Ev.not (gvE hg rfl)) <| Y.g rfl rfl (fun hg => Ev.mvB (gvE hg rfl)) <| OPS.gvalN rfl rfl (GB.g rfl) rfl rfl (fun hg => Ev.fieldAddr (fld_run rfl) rfl) <| OPS.gvalN rfl rfl (GB.g rfl) rfl rfl (fun hg => Ev.load1 (agg_run rfl) (gvE hg rfl) (H.ldL 1 rfl _ rfl)) <| OPS.gvalN rfl rfl (GB.g rfl) rfl rfl (fun hg => Ev.len (el_run rfl) (gvE hg rfl)) <| OPS.gvalN rfl rfl (GB.g rfl) rfl rfl (fun hg => Ev.fieldAddr (fld_run rfl) rfl) <| OPS.gvalN rfl rfl (GB.g rfl) rfl rfl (fun hg => Ev.load1 (agg_run rfl) (gvE hg rfl) (H.ldL 1 rfl _ rfl)) <| OPS.gvalN rfl rfl (GB.g rfl) rfl rfl (fun hg => Ev.len (el_run rfl) (gvE hg rfl)) <| OPS.gvalN rfl rfl (GB.g rfl) rfl rfl (fun hg => Ev.eql (gvE hg rfl) (gvE hg rfl)) <| Y.g rfl rfl (fun hg => Ev.pickOr2 (beqT hg) (gvE hg rfl) rfl rfl) <| Y.v (Ev.pickAnd rfl rfl rfl) <| Y.z ?_
 refine WP.cut [7, 37, 38, 39, 40, 41, 42, 43, 44, 45, 46, 47, 48, 49, 50, 51, 52, 53, 54, 55, 56, 57, 58, 59, 60, 61, 62, 63, 64, 65, 66, 67, 68, 69, 70, 71, 72, 73, 74, 75, 76, 77, 78] (fun _ w' => ∃ (s2 : Option (List Int)) (fd2 : Bool) (X2 : Option Addr) (xl2 xc2 : Nat) (mv2 sc2 : Int) (Lx : List Blk), StOk m l ts ns hd q s2 fd2 xl2 mv2 sc2 ∧ (∀ x, s2 = some x → x.length ≤ 6) ∧ IsBest (mvL ns) (secsD m l ts ns hd q) (fun o => Cd o ∨ OwnP m l ts ns hd q rn al os o) s2 ∧ Kept s s2 X X2 Lx ∧ SH w0 [] w' ([⟨g2, 102, srL 0 none none none 0 0 0 0 0 0 0 ⟨0, 0, 0, 0⟩ none 0 0 none 0 0 false none 0 0 false none 0 0 0 0⟩, ⟨g1, 102, srL m A B C l.length ts.length ns.length ca cb cc hd ts[q] R rn.length cr T (rn.length + 1) tc al O os.length oc fd2 X2 xl2 xc2 mv2 sc2⟩] ++ Lx)) ?_ ?_
 ·refine WP.cond rfl (fun hc4 => ?_) (fun hc4 => ?_)
  ·have h4 : ok = true ∧ (al = true → os.length = rn.length) := by
    cases ok <;> cases al <;> simp at hc4 ⊢ <;> omega
   obtain ⟨hokt, hfull⟩ := h4
   obtain ⟨_, hmo, hse⟩ := hok1 hokt
   have hfe : walkE m l ts ns hd q (plc rn os) = 0 := hwe.2 ⟨hgo, (hok2.1 hokt).2⟩
   have hsd := secsD_eq hq hfe
   rw [← hse] at hsd
   have hbs2 := hbs.union (IsBest.one (m := mvL ns) (d := secsD m l ts ns hd q) (plc rn os))
   rw [bet_some] at hbs2
   have hown : ∀ o, (Cd o ∨ o = plc rn os) ↔ (Cd o ∨ OwnP m l ts ns hd q rn al os o) := fun o => by
    constructor
    ·rintro (h | h)
     ·exact .inl h
     ·exact .inr ⟨hfull, h, by rw [h]; exact hfe⟩
    ·rintro (h | h)
     ·exact .inl h
     ·exact .inr h.2.1
   refine Y.qr <| Y.v (Y.o H 1 rfl rfl) <| OPS.call (d := some 38) rfl rfl rfl (EvC.func (fun_run rfl)) (rNumbers m hd A B C R T O X l.length ts.length ns.length ts[q] rn os ca cb cc cr (rn.length + 1) tc oc xl xc al fd mv sc w (hr.sh H) (hO.sh H) hin hol) ?_
   rintro _ w ⟨V, cv, Lv, rfl, hOV, Hc⟩
   refine ⟨_, rfl, ?_⟩
   replace H := SH.call (L1 := [_, _]) (Lv := []) H Hc
   clear Hc
   simp only [List.cons_append, List.nil_append] at H
   have hbf : ∀ (b1 b2 : Blk) (w : World), SH w0 [] w (b1 :: b2 :: Lv) → fd = true → Calls Tryz.prog 88 #[.slice V os.length cv, .slice X xl xc] w fun e w' => e = .returned (.bool (lexB (plc rn os) (s.getD []))) ∧ Below w.heap.size w w' := fun b1 b2 w H hfd => by
    cases s with
    | none => rw [show fd = false from hst] at hfd; cases hfd
    | some x =>
     obtain ⟨_, hx1, _⟩ := hst
     have h := rBefore0 V X (plc rn os) x cv xc w (hOV.ones (R := [b1, b2]) H).1 ((hX x rfl).sh H) (by omega) (by have := hX6 x rfl; omega)
     rw [hpl, ← hx1] at h
     exact h
   refine Y.v (Ev.asS rfl) <| Y.z <| Y.qr <| Y.fa rfl rfl <| Y.j H 1 rfl rfl rfl <| Y.v (Ev.not rfl) <| Y.v (Ev.mvB rfl) <| Y.g rfl rfl (fun hg => Y.m rfl) <| Y.g rfl rfl (fun hg => Y.f rfl rfl) <| Y.y rfl rfl H 1 (fun hg => gvE hg rfl) rfl rfl <| Y.g rfl rfl (fun hg => Ev.gtr (gvE hg rfl) (gvE hg rfl)) <| Y.v (Ev.pickOr rfl rfl rfl) <| Y.v (Ev.mvB rfl) <| Y.g rfl rfl (fun hg => Y.m rfl) <| Y.g rfl rfl (fun hg => Y.f rfl rfl) <| Y.y rfl rfl H 1 (fun hg => gvE hg rfl) rfl rfl <| Y.g rfl rfl (fun hg => Ev.eql (gvE hg rfl) (gvE hg rfl)) <| Y.g rfl rfl (fun hg => Ev.mvB (gvE hg rfl)) <| OPS.gvalN rfl rfl (GB.g rfl) rfl rfl (fun hg => Ev.mvI rfl) <| OPS.gvalN rfl rfl (GB.g rfl) rfl rfl (fun hg => Ev.fieldAddr (fld_run rfl) rfl) <| OPS.gvalN rfl rfl (GB.g rfl) rfl rfl (fun hg => Ev.load1 (agg_run rfl) (gvE hg rfl) (H.ldL 1 rfl _ rfl)) <| OPS.gvalN rfl rfl (GB.g rfl) rfl rfl (fun hg => Ev.lss (gvE hg rfl) (gvE hg rfl)) <| OPS.gvalN rfl rfl (GB.g rfl) rfl rfl (fun hg => Ev.mvB (gvE hg rfl)) <| OPS.gvalN rfl rfl (GB.g rfl) rfl rfl (fun hg => Ev.mvI rfl) <| OPS.gvalN rfl rfl (GB.g rfl) rfl rfl (fun hg => Ev.fieldAddr (fld_run rfl) rfl) <| OPS.gvalN rfl rfl (GB.g rfl) rfl rfl (fun hg => Ev.load1 (agg_run rfl) (gvE hg rfl) (H.ldL 1 rfl _ rfl)) <| OPS.gvalN rfl rfl (GB.g rfl) rfl rfl (fun hg => Ev.eql (gvE hg rfl) (gvE hg rfl)) <| OPS.gvalN rfl rfl (GB.g rfl) rfl rfl (fun hg => Ev.mvB (gvE hg rfl)) <| OPS.gvalN rfl rfl (GB.g rfl) rfl rfl (fun hg => Ev.mvS rfl) <| OPS.gvalN rfl rfl (GB.g rfl) rfl rfl (fun hg => Ev.fieldAddr (fld_run rfl) rfl) <| OPS.gvalN rfl rfl (GB.g rfl) rfl rfl (fun hg => Ev.load1 (agg_run rfl) (gvE hg rfl) (H.ldL 1 rfl _ rfl)) <| OPS.gcallN (α := Unit) (f := 88) (args := [.slice V os.length cv, .slice X xl xc]) (fun _ => .bool (lexB (plc rn os) (s.getD []))) (fun _ _ => True) (fun hg => (hbf _ _ w H (by cases fd with | true => rfl | false => simp at hg)).mono fun e w' ⟨he, hb⟩ => ⟨(), he, trivial, hb⟩) rfl rfl (GB.g rfl) rfl rfl (fun hg => EvC.conv (EvC.func (fun_run rfl)) (l2 (gvE hg rfl) (gvE hg rfl))) ?_
   intro _ w _ hbc; replace H := H.toBelow hbc; clear hbc
   refine OPS.gvalN rfl rfl (GB.g rfl) rfl rfl (fun hg => (Ev.pickAnd2 (beqT hg) (gvE hg rfl) rfl rfl)) <| OPS.gvalN rfl rfl (GB.g rfl) rfl rfl (fun hg => (Ev.pickOr2 (beqT hg) (gvE hg rfl) rfl rfl)) <| Y.g rfl rfl (fun hg => Ev.pickAnd2 (beqT hg) (gvE hg rfl) rfl rfl) <| Y.v (Ev.pickOr rfl rfl rfl) <| Y.z ?_
   refine WP.cond rfl (fun hc6 => ?_) (fun hc6 => ?_)
   ·have hbt : ∀ y, s = some y → worse (mvL ns) (secsD m l ts ns hd q) y (plc rn os) := fun y hy => by
     subst hy
     obtain ⟨h1, h2, h3, h4⟩ := hst
     subst h1 h3 h4
     unfold worse
     rw [hsd, ← hmo]
     simp at hc6
     grind
    rw [if_pos hbt] at hbs2
    refine Y.r <| Y.v (Ev.mvS rfl) <| Y.a rfl <| Y.a rfl <| Y.fa rfl rfl <| Y.ss 1 H rfl (cB rfl) rfl ?_
    clear H; intro w H
    refine Y.fa rfl rfl <| Y.ss 1 H rfl (cS rfl) rfl ?_
    clear H; intro w H
    refine Y.fa rfl rfl <| Y.ss 1 H rfl (cI rfl) rfl ?_
    clear H; intro w H
    refine Y.fa rfl rfl <| Y.ss 1 H rfl (cI rfl) rfl ?_
    clear H; intro w H
    refine Y.z ?_
    have hlf : ∃ (s2 : Option (List Int)) (fd2 : Bool) (X2 : Option Addr) (xl2 xc2 : Nat) (mv2 sc2 : Int) (Lx : List Blk), StOk m l ts ns hd q s2 fd2 xl2 mv2 sc2 ∧ (∀ x, s2 = some x → x.length ≤ 6) ∧ IsBest (mvL ns) (secsD m l ts ns hd q) (fun o => Cd o ∨ OwnP m l ts ns hd q rn al os o) s2 ∧ Kept s s2 X X2 Lx ∧ SH w0 [] w ([⟨g2, 102, srL 0 none none none 0 0 0 0 0 0 0 ⟨0, 0, 0, 0⟩ none 0 0 none 0 0 false none 0 0 false none 0 0 0 0⟩, ⟨g1, 102, srL m A B C l.length ts.length ns.length ca cb cc hd ts[q] R rn.length cr T (rn.length + 1) tc al O os.length oc fd2 X2 xl2 xc2 mv2 sc2⟩] ++ Lx) :=
     ⟨some (plc rn os), true, V, os.length, cv, mo, se, Lv, ⟨rfl, hpl.symm, hmo, hsd.symm⟩, (fun x hx => by cases hx; omega), hbs2.congr hown, .inr (fun x hx _ _ _ H => by cases hx; exact (hOV.ones (R := []) H).1), H⟩
    exact ⟨Y.ag, hlf⟩
   have hbt : ¬ ∀ y, s = some y → worse (mvL ns) (secsD m l ts ns hd q) y (plc rn os) := fun h => by
    cases s with
    | none =>
     rw [show fd = false from hst] at hc6; simp at hc6
    | some y =>
     obtain ⟨h1, h2, h3, h4⟩ := hst
     subst h1 h3 h4
     have h5 := h y rfl
     unfold worse at h5
     rw [hsd, ← hmo] at h5
     simp at hc6
     grind
   rw [if_neg hbt] at hbs2
   have hlf : ∃ (s2 : Option (List Int)) (fd2 : Bool) (X2 : Option Addr) (xl2 xc2 : Nat) (mv2 sc2 : Int) (Lx : List Blk), StOk m l ts ns hd q s2 fd2 xl2 mv2 sc2 ∧ (∀ x, s2 = some x → x.length ≤ 6) ∧ IsBest (mvL ns) (secsD m l ts ns hd q) (fun o => Cd o ∨ OwnP m l ts ns hd q rn al os o) s2 ∧ Kept s s2 X X2 Lx ∧ SH w0 [] w ([⟨g2, 102, srL 0 none none none 0 0 0 0 0 0 0 ⟨0, 0, 0, 0⟩ none 0 0 none 0 0 false none 0 0 false none 0 0 0 0⟩, ⟨g1, 102, srL m A B C l.length ts.length ns.length ca cb cc hd ts[q] R rn.length cr T (rn.length + 1) tc al O os.length oc fd2 X2 xl2 xc2 mv2 sc2⟩] ++ Lx) :=
    ⟨s, fd, X, xl, xc, mv, sc, Lv, hst, hX6, hbs2.congr hown, .inl ⟨rfl, rfl⟩, H⟩
   refine Y.k ?_
   exact ⟨Y.ag, hlf⟩
  have hno : ∀ o, ¬ OwnP m l ts ns hd q rn al os o := fun o h => by
   obtain ⟨h1, h2, h3⟩ := h
   rw [h2] at h3
   have h5 := hok2.2 ⟨hop.2 hgo, (hwe.1 h3).2⟩
   cases al
   ·simp [h5] at hc4
   ·have := h1 rfl
    simp [h5] at hc4; omega
  have hlf : ∃ (s2 : Option (List Int)) (fd2 : Bool) (X2 : Option Addr) (xl2 xc2 : Nat) (mv2 sc2 : Int) (Lx : List Blk), StOk m l ts ns hd q s2 fd2 xl2 mv2 sc2 ∧ (∀ x, s2 = some x → x.length ≤ 6) ∧ IsBest (mvL ns) (secsD m l ts ns hd q) (fun o => Cd o ∨ OwnP m l ts ns hd q rn al os o) s2 ∧ Kept s s2 X X2 Lx ∧ SH w0 [] w ([⟨g2, 102, srL 0 none none none 0 0 0 0 0 0 0 ⟨0, 0, 0, 0⟩ none 0 0 none 0 0 false none 0 0 false none 0 0 0 0⟩, ⟨g1, 102, srL m A B C l.length ts.length ns.length ca cb cc hd ts[q] R rn.length cr T (rn.length + 1) tc al O os.length oc fd2 X2 xl2 xc2 mv2 sc2⟩] ++ Lx) :=
   ⟨s, fd, X, xl, xc, mv, sc, [], hst, hX6, hbs.congr (fun o => by simp [hno o]), .inl ⟨rfl, rfl⟩, H⟩
  refine Y.k ?_
  exact ⟨Y.ag, hlf⟩
 clear H
 rintro u w ⟨s2, fd2, X2, xl2, xc2, mv2, sc2, Lx, hst2, hs26, hbs2, hkp, H⟩
 unfold srL at H
 replace H : SH w0 [] w (⟨g2, _, _⟩ :: ⟨g1, _, _⟩ :: Lx) := H
 refine Y.qr <| Y.fa rfl rfl <| Y.j H 1 rfl rfl rfl <| Y.v (Ev.asS rfl) <| Y.z <| Y.q <| Y.qr <| Y.b rfl <| Y.z <| WP.block <| WP.loop [9, 10, 11, 81, 82, 83, 84, 85, 86, 87, 88, 89, 90, 91, 92, 93, 94, 95, 96, 97, 98, 99, 100, 101, 102, 103, 104, 105, 106, 107, 108, 109, 110, 111, 112, 113] (fun k e w' => ∃ (i : Nat) (s3 : Option (List Int)) (fd3 : Bool) (O3 X3 : Option Addr) (ol3 oc3 xl3 xc3 : Nat) (mv3 sc3 : Int) (Lz : List Blk), i + k = rn.length ∧ e 9 = I i ∧ StOk m l ts ns hd q s3 fd3 xl3 mv3 sc3 ∧ (∀ x, s3 = some x → x.length ≤ 6) ∧ IsBest (mvL ns) (secsD m l ts ns hd q) (fun o => (Cd o ∨ OwnP m l ts ns hd q rn al os o) ∨ ∃ p, p < i ∧ p ∉ os ∧ ExtP m l ts ns hd q rn al (os ++ [p]) o) s3 ∧ Kept s s3 X X3 Lz ∧ SH w0 [] w' (⟨g2, 102, srL 0 none none none 0 0 0 0 0 0 0 ⟨0, 0, 0, 0⟩ none 0 0 none 0 0 false none 0 0 false none 0 0 0 0⟩ :: ⟨g1, 102, srL m A B C l.length ts.length ns.length ca cb cc hd ts[q] R rn.length cr T (rn.length + 1) tc al O3 ol3 oc3 fd3 X3 xl3 xc3 mv3 sc3⟩ :: Lz)) (rn.length) (⟨0, s2, fd2, O, X2, os.length, oc, xl2, xc2, mv2, sc2, Lx, by omega, rfl, hst2, hs26, hbs2.congr (fun o => by simp), hkp, H⟩) ?_
 clear H hkp hbs2 hs26 hst2 s2 fd2 X2 xl2 xc2 mv2 sc2 Lx
 rintro k u w ⟨i, s2, fd2, O3, X2, ol3, oc3, xl2, xc2, mv2, sc2, Lx, hkk, h9, hst2, hs26, hbs2, hkp, H⟩
 unfold srL at H
 refine WP.know (t := 9) h9 <| Y.q <| Y.qr <| Y.a rfl <| Y.fa rfl rfl <| Y.j H 1 rfl rfl rfl <| Y.v (Y.n rfl) <| Y.v (Ev.lss rfl rfl) <| Y.z ?_
 refine WP.cond rfl (fun hc10 => ?_) (fun hc10 => ?_)
 ·have hil : i < rn.length := by simpa using hc10
  refine Y.k <| Y.q <| WP.block <| Y.qr <| Y.v (Ev.asB rfl) <| Y.z <| Y.q <| Y.qr <| Y.b rfl <| Y.z <| WP.block <| WP.loop [10, 11, 88, 89, 90, 91, 92, 93, 94, 95, 96, 97, 98, 99, 100, 101, 102] (fun k e w' => ∃ (j : Nat), j + k = os.length ∧ e 11 = I j ∧ e 10 = .bool (decide (i ∈ os.take j)) ∧ SH w0 [] w' (⟨g2, 102, srL 0 none none none 0 0 0 0 0 0 0 ⟨0, 0, 0, 0⟩ none 0 0 none 0 0 false none 0 0 false none 0 0 0 0⟩ :: ⟨g1, 102, srL m A B C l.length ts.length ns.length ca cb cc hd ts[q] R rn.length cr T (rn.length + 1) tc al O3 ol3 oc3 fd2 X2 xl2 xc2 mv2 sc2⟩ :: Lx)) (os.length) (⟨0, by omega, rfl, (by rw [show decide (i ∈ os.take 0) = false by simp]; rfl), H⟩) ?_
  clear H
  rintro k2 u2 w ⟨j, hk2, h11, h10, H⟩
  unfold srL at H
  refine WP.know (t := 11) h11 (WP.know (t := 10) h10 ?_)
  refine Y.q <| Y.qr <| Y.a rfl <| Y.v (Ev.mvS rfl) <| Y.v (Y.n rfl) <| Y.v (Ev.lss rfl rfl) <| Y.z ?_
  refine WP.cond rfl (fun hc14 => ?_) (fun hc14 => ?_)
  ·have hjl : j < os.length := by simpa using hc14
   have hcO := hO j (by simpa using hjl)
   have htk := List.take_succ_eq_append_getElem hjl
   simp only [List.getElem_map] at hcO
   generalize os[j] = p at hcO htk
   obtain ⟨bO, oO, hOe, hcO⟩ := hcO
   subst hOe
   have hde : decide (i ∈ os.take (j + 1)) = (decide (i ∈ os.take j) || decide ((p : Int) = (i : Int))) := by
    rw [htk, Bool.eq_iff_iff]; simp only [decide_eq_true_eq, Bool.or_eq_true, List.mem_append, List.mem_singleton]
    constructor <;> (rintro (h | h); exact .inl h; exact .inr (by omega))
   refine Y.k <| Y.q <| WP.block <| Y.r <| Y.v (Ev.mvB rfl) <| Y.v (Ev.mvB rfl) <| Y.g rfl rfl (fun hg => Ev.mvS rfl) <| Y.g rfl rfl (fun hg => Y.m rfl) <| Y.g rfl rfl (fun hg => Ev.indexAddr1 (el_run rfl) (size_run rfl) (gvE hg rfl) (gvE hg rfl) rfl (by omega)) <| Y.g rfl rfl (fun hg => Ev.load1 (agg_run rfl) (gvE hg rfl) (H.ld0 (by assumption))) ?_
   refine Y.g rfl rfl (fun hg => Y.m rfl) <| Y.g rfl rfl (fun hg => Ev.eql (gvE hg rfl) (gvE hg rfl)) <| Y.v (Ev.pickOr rfl rfl rfl) <| Y.v (Ev.asB rfl) <| Y.z <| Y.r <| Y.a rfl <| Y.v (Y.p rfl rfl) <| Y.b rfl <| Y.z ?_
   exact ⟨Y.ag, k2 - 1, by omega, j + 1, by omega, rfl, (by rw [hde]; rfl), H⟩
  have hj : j = os.length := by simp at hc14; omega
  refine WP.exit <| XB.hit <| Y.qr <| Y.v (Ev.mvB rfl) <| Y.v (Ev.not rfl) <| Y.z ?_
  refine WP.cond rfl (fun hc17 => ?_) (fun hc17 => ?_)
  ·have hni : i ∉ os := by rw [hj, List.take_length] at hc17; simpa using hc17
   have ihc := ih i hil hni
   unfold TryOk at ihc
   rw [show (os ++ [i]).length = os.length + 1 by simp] at ihc
   unfold srL at ihc
   refine Y.qr <| OPS.buildSlice rfl rfl rfl rfl (bsl_32_0_ (e := fun _ => .int .i64 0)) H ?_
   clear H; intro g105 w H
   refine Y.v (Ev.mvS rfl) <| OPS.appendE (m := os.length) (news := (os.map fun v : Nat => (v : Int)).map I) rfl rfl rfl rfl rfl (sl_run rfl) rfl rfl (OwnS.mt (g := g105)) (by simp) (by have := intsFrom (hO.sh H); simpa using this) (intsOne _) (by omega) (by unfold maxLen; omega) H (List.perm_append_singleton _ _).symm ?_
   clear H; intro AE ce Le w hOE H
   rw [Nat.zero_add, List.nil_append] at hOE
   rw [show 0 + os.length = os.length from Nat.zero_add _]
   simp only [List.cons_append] at H
   refine Y.a rfl <| OPS.buildSlice rfl rfl rfl rfl (bsl_32_1_0 rfl) H ?_
   clear H; intro g109 w H
   refine OPS.append (m := 1) (news := [I i]) (R := ⟨g109, 3, [I i]⟩ :: ⟨g2, 102, srL 0 none none none 0 0 0 0 0 0 0 ⟨0, 0, 0, 0⟩ none 0 0 none 0 0 false none 0 0 false none 0 0 0 0⟩ :: ⟨g1, 102, srL m A B C l.length ts.length ns.length ca cb cc hd ts[q] R rn.length cr T (rn.length + 1) tc al O3 ol3 oc3 fd2 X2 xl2 xc2 mv2 sc2⟩ :: Lx) rfl rfl rfl rfl rfl (sl_run rfl) rfl rfl hOE rfl (src_own H 0 rfl) rfl (by omega) (by unfold maxLen; omega) H (List.Perm.refl _) ?_
   clear H hOE; intro AE ce Le w hOE H
   unfold srL at H
   replace hOE : OwnS AE ce (os.length + 1) (((os ++ [i]).map fun v : Nat => (v : Int)).map I) 3 1 Le := by simpa using hOE
   simp only [List.cons_append] at H
   refine Y.fa rfl rfl <| Y.st 2 H rfl (cS rfl) rfl ?_
   clear H; intro w H
   simp only [List.set_cons_zero, List.set_cons_succ, putL, Nat.zero_add] at H
   refine Y.z <| Y.r <| Y.v (Y.o H 2 rfl rfl) <| OPS.call (d := some 113) rfl rfl rfl (EvC.func (fun_run rfl)) (ihc s2 _ AE X2 ce xl2 xc2 fd2 mv2 sc2 w (hn.sh H) (hr.sh H) (hT.below H.below) (hOE.ones (R := []) (H.drop (L' := Le) Sb.out)).1 hst2 (hkp.read hX H Sb.out) hs26 hbs2) ?_
   rintro _ w ⟨s3, fd3, O4, X3, ol4, oc4, xl3, xc3, mv3, sc3, Lc, rfl, hst3, hs36, hbs3, hkp3, Hc⟩
   refine ⟨_, rfl, ?_⟩
   replace H := SH.call (L1 := _) (Lv := []) (by rw [List.append_nil]; exact H) Hc
   clear Hc
   simp only [List.cons_append] at H
   refine Y.st 2 H rfl (cA rfl) rfl ?_
   clear H; intro w H
   simp only [List.set_cons_zero, List.set_cons_succ] at H
   refine Y.z ?_
   have hrd : ∃ (s3 : Option (List Int)) (fd3 : Bool) (O3 X3 : Option Addr) (ol3 oc3 xl3 xc3 : Nat) (mv3 sc3 : Int) (Lz : List Blk), StOk m l ts ns hd q s3 fd3 xl3 mv3 sc3 ∧ (∀ x, s3 = some x → x.length ≤ 6) ∧ IsBest (mvL ns) (secsD m l ts ns hd q) (fun o => (Cd o ∨ OwnP m l ts ns hd q rn al os o) ∨ ∃ p, p < i + 1 ∧ p ∉ os ∧ ExtP m l ts ns hd q rn al (os ++ [p]) o) s3 ∧ Kept s s3 X X3 Lz ∧ SH w0 [] w (⟨g2, 102, srL 0 none none none 0 0 0 0 0 0 0 ⟨0, 0, 0, 0⟩ none 0 0 none 0 0 false none 0 0 false none 0 0 0 0⟩ :: ⟨g1, 102, srL m A B C l.length ts.length ns.length ca cb cc hd ts[q] R rn.length cr T (rn.length + 1) tc al O3 ol3 oc3 fd3 X3 xl3 xc3 mv3 sc3⟩ :: Lz) :=
    ⟨s3, fd3, O4, X3, ol4, oc4, xl3, xc3, mv3, sc3, Lx ++ Lc, hst3, hs36, hbs3.congr (fun o => by
     constructor
     ·rintro ((h | ⟨p, h1, h2, h3⟩) | h)
      ·exact .inl h
      ·exact .inr ⟨p, by omega, h2, h3⟩
      ·exact .inr ⟨i, by omega, hni, h⟩
     ·rintro (h | ⟨p, h1, h2, h3⟩)
      ·exact .inl (.inl h)
      ·by_cases hp : p = i
       ·subst hp; exact .inr h3
       ·exact .inl (.inr ⟨p, by omega, h2, h3⟩)), hkp.step hkp3, H.drop (by refine List.Sublist.cons _ (List.Sublist.cons_cons _ (List.Sublist.cons_cons _ ?_)); exact List.Sublist.append (List.sublist_append_left _ _) (List.Sublist.refl _))⟩
   refine Y.r <| Y.a rfl <| Y.v (Y.p rfl rfl) <| Y.b rfl <| Y.z ?_
   obtain ⟨s3, fd3, O4, X3, ol4, oc4, xl3, xc3, mv3, sc3, Lz, hst3, hs36, hbs3, hkp3, H3⟩ := hrd
   exact ⟨Y.ag, k - 1, by omega, i + 1, s3, fd3, O4, X3, ol4, oc4, xl3, xc3, mv3, sc3, Lz, by omega, rfl, hst3, hs36, hbs3, hkp3, H3⟩
  have hni : i ∈ os := by rw [hj, List.take_length] at hc17; simpa using hc17
  have hrd : ∃ (s3 : Option (List Int)) (fd3 : Bool) (O3 X3 : Option Addr) (ol3 oc3 xl3 xc3 : Nat) (mv3 sc3 : Int) (Lz : List Blk), StOk m l ts ns hd q s3 fd3 xl3 mv3 sc3 ∧ (∀ x, s3 = some x → x.length ≤ 6) ∧ IsBest (mvL ns) (secsD m l ts ns hd q) (fun o => (Cd o ∨ OwnP m l ts ns hd q rn al os o) ∨ ∃ p, p < i + 1 ∧ p ∉ os ∧ ExtP m l ts ns hd q rn al (os ++ [p]) o) s3 ∧ Kept s s3 X X3 Lz ∧ SH w0 [] w (⟨g2, 102, srL 0 none none none 0 0 0 0 0 0 0 ⟨0, 0, 0, 0⟩ none 0 0 none 0 0 false none 0 0 false none 0 0 0 0⟩ :: ⟨g1, 102, srL m A B C l.length ts.length ns.length ca cb cc hd ts[q] R rn.length cr T (rn.length + 1) tc al O3 ol3 oc3 fd3 X3 xl3 xc3 mv3 sc3⟩ :: Lz) :=
   ⟨s2, fd2, O3, X2, ol3, oc3, xl2, xc2, mv2, sc2, Lx, hst2, hs26, hbs2.congr (fun o => by
    constructor
    ·rintro (h | ⟨p, h1, h2, h3⟩)
     ·exact .inl h
     ·exact .inr ⟨p, by omega, h2, h3⟩
    ·rintro (h | ⟨p, h1, h2, h3⟩)
     ·exact .inl h
     ·by_cases hp : p = i
      ·subst hp; exact absurd hni h2
      ·exact .inr ⟨p, by omega, h2, h3⟩), hkp, H⟩
  refine Y.k <| Y.r <| Y.a rfl <| Y.v (Y.p rfl rfl) <| Y.b rfl <| Y.z ?_
  obtain ⟨s3, fd3, O4, X3, ol4, oc4, xl3, xc3, mv3, sc3, Lz, hst3, hs36, hbs3, hkp3, H3⟩ := hrd
  exact ⟨Y.ag, k - 1, by omega, i + 1, s3, fd3, O4, X3, ol4, oc4, xl3, xc3, mv3, sc3, Lz, by omega, rfl, hst3, hs36, hbs3, hkp3, H3⟩
 have hi : i = rn.length := by simp at hc10; omega
 refine WP.exit <| XB.hit <| Y.qr <| Y.v (Ev.mvS rfl) <| Y.fa rfl rfl <| Y.ss 1 H rfl (cS rfl) rfl ?_
 clear H; intro w H
 refine Y.z <| Y.qr <| Y.v (Y.o H 1 rfl rfl) <| Y.st 0 H rfl (cA rfl) rfl ?_
 clear H; intro w H
 simp only [List.set_cons_zero, List.set_cons_succ] at H
 refine Y.z ?_
 refine WP.ret ⟨[_], ⟨(by exact resCellA 0 H rfl (agg_run rfl) (size_run rfl) (by rfl) rfl), trivial⟩, ?_⟩
 exact ⟨s2, fd2, O, X2, os.length, oc, xl2, xc2, mv2, sc2, Lx, rfl, hst2, hs26, hbs2.congr (fun o => by
  rw [ext_split hnd hin, hi]
  constructor
  ·rintro ((h | h) | h)
   ·exact .inl h
   ·exact .inr (.inl h)
   ·exact .inr (.inr h)
  ·rintro (h | h | h)
   ·exact .inl (.inl h)
   ·exact .inl (.inr h)
   ·exact .inr h), hkp, H.drop Sb.out⟩
end Go.Proofs.YtgcokllbophkkaaGreat
namespace Go.Proofs.YtgcokllbophkkaaGreat
open Go Go.W Go.RowKit
theorem rCheck (n hd rt : Int) (A B C R : Option Addr) (l : List Edg) (ts : List Truck) (ns : List Need) (rn : List Int) (ca cb cc cr : Nat) (w0 : World) (hz : EdgsAt w0 A l) (ht : RowsAt 4 truckCells w0 B ts) (hn : RowsAt 2 needCells w0 C ns) (hr : IntsAt w0 R rn) (hrl : rn.length ≤ 1000) :
  Calls Tryz.prog 57 #[.agg #[I n, .slice A l.length ca, .slice B ts.length cb, .slice C ns.length cc, I hd], I rt, .slice R rn.length cr] w0 fun e w' => e = .returned (I (askErr n l ts ns hd rt rn)) ∧ Below w0.heap.size w0 w' := by
 have H := SH.refl w0
 refine Calls.ofWP Tryz.func57 rfl Tryz.results57 Tryz.ntmps57 rfl <| Y.qr <| Y.bx (cA rfl) H ?_
 clear H; intro g3 w H
 refine Y.b rfl <| Y.z <| Y.q <| Y.qr <| Y.v (Y.o H 0 rfl rfl) <| OPS.call (d := some 12) rfl rfl rfl (EvC.func (fun_run rfl)) (r42Check n hd A B C l ts ns ca cb cc w (hz.sh H) (ht.sh H) (hn.sh H)) ?_
 rintro _ w ⟨rfl, hb⟩
 refine ⟨_, rfl, ?_⟩
 replace H := H.toBelow hb; clear hb
 refine Y.b rfl <| Y.z <| Y.qr <| Y.a rfl <| Y.v (Ev.neq rfl rfl) <| Y.z ?_
 refine WP.cond rfl (fun hc2 => ?_) (fun hc2 => ?_)
 ·refine Y.qr <| Y.a rfl <| Y.b rfl <| Y.z ?_
  refine WP.ret ⟨_, rfl, ?_⟩
  have h : nightErr n l ts ns hd ≠ 0 := by simpa using hc2
  exact ⟨by rw [askErr, if_pos h]; rfl, H.below⟩
 have h0 : nightErr n l ts ns hd = 0 := by simpa using hc2
 obtain ⟨m, rfl, hN⟩ := nightOk_of h0
 have he0 : askErr m l ts ns hd rt rn = if routeErr ts ns rt rn ≠ 0 then routeErr ts ns rt rn else if 6 < rn.length then 8 else 0 := by rw [askErr, if_neg (by simp [h0])]
 have hout := outB_or ts.length rt
 refine Y.k <| Y.q <| Y.qr <| Y.a rfl <| Y.v (Ev.lss rfl rfl) <| Y.v (Ev.mvB rfl) <| Y.g rfl rfl (fun hg => Y.m rfl) <| Y.g rfl rfl (fun hg => Y.f rfl rfl) <| Y.y rfl rfl H 0 (fun hg => gvE hg rfl) rfl rfl <| Y.g rfl rfl (fun hg => Ev.len (el_run rfl) (gvE hg rfl)) <| Y.g rfl rfl (fun hg => Ev.geq (gvE hg rfl) (gvE hg rfl)) <| Y.v (Ev.pickOr rfl rfl rfl) <| Y.z ?_
 refine WP.cond rfl (fun hc4 => ?_) (fun hc4 => ?_)
 ·refine Y.qr <| Y.b rfl <| Y.z ?_
  refine WP.ret ⟨_, rfl, ?_⟩
  have he : routeErr ts ns rt rn = 7 := by
   unfold routeErr
   rw [if_pos (.inl (by rw [hout]; simpa using hc4))]
  exact ⟨by rw [he0, he]; rfl, H.below⟩
 have hno : outB ts.length rt = false := by rw [hout]; simpa using hc4
 refine Y.k <| Y.q <| Y.qr <| Y.b rfl <| Y.z <| WP.block <| WP.loop [6, 8, 25, 26, 27, 28, 29, 30, 31, 32, 33, 34, 35, 36, 37, 38, 39, 40, 41, 42, 43, 44, 45] (fun k e w' => ∃ (j : Nat), j + k = rn.length ∧ e 8 = I j ∧ (∀ i ∈ rn.take j, outB ns.length i = false) ∧ SH w0 [] w' [⟨g3, 28, [I m, .slice A l.length ca, .slice B ts.length cb, .slice C ns.length cc, I hd]⟩]) (rn.length) (⟨0, by omega, rfl, by simp, H⟩) ?_
 clear H
 rintro k u w ⟨j, hk, h8, hall, H⟩
 refine WP.know (t := 8) h8 <| Y.q <| Y.qr <| Y.a rfl <| Y.v (Ev.mvS rfl) <| Y.v (Y.n rfl) <| Y.v (Ev.lss rfl rfl) <| Y.z ?_
 refine WP.cond rfl (fun hc7 => ?_) (fun hc7 => ?_)
 ·have hlt : j < rn.length := by simpa using hc7
  obtain ⟨br, orr, rfl, hx⟩ := hr j hlt
  have ho := outB_or ns.length rn[j]
  have htk := List.take_succ_eq_append_getElem hlt
  refine Y.k <| Y.q <| WP.block <| Y.q <| WP.rstill mixed (by kernel_rfl) H ?_
  clear H; intro w hbw9 H
  refine Y.v (Ev.mvS rfl) <| Y.a rfl <| Y.v (Y.x rfl rfl rfl rfl) <| Y.v (Y.c (H.ld0 (by assumption)) rfl) ?_
  refine Y.v (Ev.lss rfl rfl) <| Y.v (Ev.mvB rfl) <| Y.g rfl rfl (fun hg => Ev.mvS rfl) <| Y.g rfl rfl (fun hg => Y.m rfl) <| Y.g rfl rfl (fun hg => Ev.indexAddr1 (el_run rfl) (size_run rfl) (gvE hg rfl) (gvE hg rfl) rfl (by omega)) <| Y.g rfl rfl (fun hg => Ev.load1 (agg_run rfl) (gvE hg rfl) (H.ld0 (by assumption))) ?_
  refine Y.g rfl rfl (fun hg => Y.f rfl rfl) <| Y.y rfl rfl H 0 (fun hg => gvE hg rfl) rfl rfl <| Y.g rfl rfl (fun hg => Ev.len (el_run rfl) (gvE hg rfl)) <| Y.g rfl rfl (fun hg => Ev.geq (gvE hg rfl) (gvE hg rfl)) <| Y.v (Ev.pickOr rfl rfl rfl) <| OPS.nil_s ?_
  refine WP.cond rfl (fun hc9 => ?_) (fun hc9 => ?_)
  ·refine Y.qr <| Y.b rfl <| Y.z ?_
   refine WP.ret ⟨_, rfl, ?_⟩
   have h : outB ns.length rn[j] = true := by rw [ho]; simpa using hc9
   have he : routeErr ts ns rt rn = 7 := by
    unfold routeErr
    rw [if_pos (.inr (List.any_eq_true.2 ⟨_, List.getElem_mem hlt, h⟩))]
   exact ⟨by rw [he0, he]; rfl, H.below⟩
  have h : outB ns.length rn[j] = false := by rw [ho]; simpa using hc9
  refine Y.k <| Y.r <| Y.a rfl <| Y.v (Y.p rfl rfl) <| Y.b rfl <| Y.z ?_
  exact ⟨Y.ag, k - 1, by omega, j + 1, by omega, rfl, (fun i hi => by
   rw [htk, List.mem_append, List.mem_singleton] at hi
   rcases hi with hi | rfl
   ·exact hall i hi
   ·exact h), H⟩
 have hj : j = rn.length := by simp at hc7; omega
 subst hj
 rw [List.take_length] at hall
 have he1 : routeErr ts ns rt rn = if twiceB rn = true then 6 else 0 := by
  unfold routeErr
  rw [if_neg]
  rintro (h | h)
  ·rw [hno] at h; cases h
  ·obtain ⟨i, h1, h2⟩ := List.any_eq_true.1 h
   rw [hall i h1] at h2; cases h2
 refine WP.exit <| XB.hit <| Y.q <| Y.qr <| Y.b rfl <| Y.z <| WP.block <| WP.loop [6, 9, 10, 46, 47, 48, 49, 50, 51, 52, 53, 54, 55, 56, 57, 58, 59, 60, 61, 62, 63, 64, 65] (fun k e w' => ∃ (j : Nat), j + k = rn.length ∧ e 9 = I j ∧ (rn.take j).Nodup ∧ SH w0 [] w' [⟨g3, 28, [I m, .slice A l.length ca, .slice B ts.length cb, .slice C ns.length cc, I hd]⟩]) (rn.length) (⟨0, by omega, rfl, by simp, H⟩) ?_
 clear H
 rintro k2 u2 w ⟨j, hk2, h9, hnd, H⟩
 refine WP.know (t := 9) h9 <| Y.q <| Y.qr <| Y.a rfl <| Y.v (Ev.mvS rfl) <| Y.v (Y.n rfl) <| Y.v (Ev.lss rfl rfl) <| Y.z ?_
 refine WP.cond rfl (fun hc12 => ?_) (fun hc12 => ?_)
 ·have hlt : j < rn.length := by simpa using hc12
  obtain ⟨br, orr, rfl, hx⟩ := hr j hlt
  have htk := List.take_succ_eq_append_getElem hlt
  refine Y.k <| Y.q <| WP.block <| Y.qr <| Y.b rfl <| Y.z <| WP.block <| WP.loop [6, 10, 52, 53, 54, 55, 56, 57, 58, 59, 60, 61, 62, 63, 64, 65] (fun k e w' => ∃ (p : Nat), p + k = j ∧ e 10 = I p ∧ rn[j] ∉ rn.take p ∧ SH w0 [] w' [⟨g3, 28, [I m, .slice A l.length ca, .slice B ts.length cb, .slice C ns.length cc, I hd]⟩]) (j) (⟨0, by omega, rfl, by simp, H⟩) ?_
  clear H
  rintro k3 u3 w ⟨p, hk3, h10, hni, H⟩
  refine WP.know (t := 10) h10 <| Y.q <| Y.qr <| Y.a rfl <| Y.a rfl <| Y.v (Ev.lss rfl rfl) <| Y.z ?_
  refine WP.cond rfl (fun hc15 => ?_) (fun hc15 => ?_)
  ·have hlt3 : p < j := by simpa using hc15
   have hy : w0.cell? ⟨br, orr + p, none⟩ = some (I rn[p]) := by
    obtain ⟨b3, o3, e3, hz⟩ := hr p (by omega)
    cases e3; exact hz
   have htk3 := List.take_succ_eq_append_getElem (show p < rn.length by omega)
   refine Y.k <| Y.q <| WP.block <| Y.q <| WP.rstill mixed (by kernel_rfl) H ?_
   clear H; intro w hbw17 H
   refine Y.v (Ev.mvS rfl) <| Y.a rfl <| Y.v (Y.x rfl rfl rfl rfl) <| Y.v (Y.c (H.ld0 (by assumption)) rfl) ?_
   refine Y.v (Ev.mvS rfl) <| Y.a rfl <| Y.v (Y.x rfl rfl rfl rfl) <| Y.v (Y.c (H.ld0 (by assumption)) rfl) ?_
   refine Y.v (Ev.eql rfl rfl) <| OPS.nil_s ?_
   refine WP.cond rfl (fun hc17 => ?_) (fun hc17 => ?_)
   ·refine Y.qr <| Y.b rfl <| Y.z ?_
    refine WP.ret ⟨_, rfl, ?_⟩
    have heq : rn[p] = rn[j] := by simpa using hc17
    have hnn : ¬ rn.Nodup := fun h => by
     have := (List.getElem_inj h).1 heq
     omega
    have he : routeErr ts ns rt rn = 6 := by rw [he1, if_pos (by unfold twiceB; simpa using hnn)]
    exact ⟨by rw [he0, he]; rfl, H.below⟩
   have hne : ¬ rn[p] = rn[j] := by simpa using hc17
   refine Y.k <| Y.r <| Y.a rfl <| Y.v (Y.p rfl rfl) <| Y.b rfl <| Y.z ?_
   exact ⟨Y.ag, k3 - 1, by omega, p + 1, by omega, rfl, (by
    rw [htk3, List.mem_append, List.mem_singleton]
    rintro (h | h)
    ·exact hni h
    ·exact hne h.symm), H⟩
  have hp : p = j := by simp at hc15; omega
  subst hp
  refine WP.exit <| XB.hit <| Y.r <| Y.a rfl <| Y.v (Y.p rfl rfl) <| Y.b rfl <| Y.z ?_
  exact ⟨Y.ag, k2 - 1, by omega, p + 1, by omega, rfl, (by
   rw [htk, List.nodup_append]
   exact ⟨hnd, by simp, fun x hx y hy he => by simp at hy; subst hy he; exact hni hx⟩), H⟩
 have hj : j = rn.length := by simp at hc12; omega
 rw [hj, List.take_length] at hnd
 have he : routeErr ts ns rt rn = 0 := by rw [he1, if_neg (by unfold twiceB; simpa using hnd)]
 refine WP.exit <| XB.hit <| Y.q <| Y.qr <| Y.v (Ev.mvS rfl) <| Y.v (Y.n rfl) <| Y.v (Ev.gtr rfl rfl) <| Y.z ?_
 refine WP.cond rfl (fun hc19 => ?_) (fun hc19 => ?_)
 ·refine Y.qr <| Y.b rfl <| Y.z ?_
  refine WP.ret ⟨_, rfl, ?_⟩
  exact ⟨by rw [he0, he, if_neg (by simp), if_pos (by simp at hc19; omega)]; rfl, H.below⟩
 refine Y.k <| Y.qr <| Y.b rfl <| Y.z ?_
 refine WP.ret ⟨_, rfl, ?_⟩
 exact ⟨by rw [he0, he, if_neg (by simp), if_neg (by simp at hc19; omega)]; rfl, H.below⟩
end Go.Proofs.YtgcokllbophkkaaGreat
namespace Go.Proofs.YtgcokllbophkkaaGreat
open Go Go.W Go.RowKit
theorem rTry (m : Nat) (hd : Int) (q : Nat) (A B C R T : Option Addr) (l : List Edg) (ts : List Truck) (ns : List Need) (rn : List Int) (ca cb cc cr tc : Nat) (al : Bool) (hq : q < ts.length) (hk : AskOk m l ts ns hd q rn) :
  ∀ (D : Nat) (os : List Nat), rn.length ≤ os.length + D → os.Nodup → (∀ i ∈ os, i < rn.length) → TryOk m hd q A B C R T l ts ns rn ca cb cc cr tc al ts[q] os := by
 have hl6 := hk.len
 have hfull : ∀ os : List Nat, os.Nodup → (∀ i ∈ os, i < rn.length) → os.length ≤ rn.length := fun os h1 h2 => by
  have := h1.length_le_of_subset (l₂ := List.range rn.length) fun i hi => List.mem_range.2 (h2 i hi)
  rwa [List.length_range] at this
 have hstep : ∀ (os : List Nat) (i : Nat), os.Nodup → (∀ i ∈ os, i < rn.length) → i < rn.length → i ∉ os → (os ++ [i]).Nodup ∧ ∀ p ∈ os ++ [i], p < rn.length := fun os i h1 h2 h3 h4 => by
  refine ⟨by rw [List.nodup_append]; exact ⟨h1, by simp, fun a ha b hb he => by simp at hb; subst hb he; exact h4 ha⟩, fun p hp => ?_⟩
  rcases List.mem_append.1 hp with hp | hp
  ·exact h2 p hp
  ·simp at hp; subst hp; exact h3
 intro D
 induction D with
 | zero =>
  intro os hD hnd hin
  refine rTryStep m hd q A B C R T l ts ns rn ca cb cc cr tc al hq hk os hnd hin (by have := hfull os hnd hin; omega) fun i hi hni => ?_
  obtain ⟨h1, h2⟩ := hstep os i hnd hin hi hni
  have := hfull _ h1 h2
  rw [List.length_append, List.length_singleton] at this
  omega
 | succ D ihD =>
  intro os hD hnd hin
  refine rTryStep m hd q A B C R T l ts ns rn ca cb cc cr tc al hq hk os hnd hin (by have := hfull os hnd hin; omega) fun i hi hni => ?_
  obtain ⟨h1, h2⟩ := hstep os i hnd hin hi hni
  exact ihD (os ++ [i]) (by rw [List.length_append, List.length_singleton]; omega) h1 h2
theorem rMost (n hd rt : Int) (A B C R : Option Addr) (l : List Edg) (ts : List Truck) (ns : List Need) (rn : List Int) (ca cb cc cr : Nat) (w0 : World) (hz : EdgsAt w0 A l) (ht : RowsAt 4 truckCells w0 B ts) (hn : RowsAt 2 needCells w0 C ns) (hr : IntsAt w0 R rn) (hrl : rn.length ≤ 1000) :
  Calls Tryz.prog 33 #[.agg #[I n, .slice A l.length ca, .slice B ts.length cb, .slice C ns.length cc, I hd], I rt, .slice R rn.length cr] w0 fun e w' => ∃ (er r0 : Int) (x : List Int) (X : Option Addr) (c : Nat) (Lf : List Blk), e = .returned (.tuple #[.agg #[I r0, .slice X x.length c], I er]) ∧ MostAns n l ts ns hd rt rn er r0 x ∧ Reads Lf (fun w => IntsAt w X x) ∧ SH w0 [] w' Lf := by
 have H := SH.refl w0
 refine Calls.ofWPc Tryz.func33 rfl Tryz.results33 Tryz.ntmps33 rfl <| Y.qr <| Y.bx (cA rfl) H ?_
 clear H; intro g3 w H
 refine Y.al H rfl rfl ?_
 clear H; intro g6 w H
 refine Y.b rfl <| Y.z <| Y.q <| Y.qr <| Y.v (Y.o H 1 rfl rfl) <| Y.a rfl <| Y.v (Ev.mvS rfl) <| OPS.call (d := some 13) rfl rfl rfl (EvC.func (fun_run rfl)) (rCheck n hd rt A B C R l ts ns rn ca cb cc cr w (hz.sh H) (ht.sh H) (hn.sh H) (hr.sh H) hrl) ?_
 rintro _ w ⟨rfl, hb⟩
 refine ⟨_, rfl, ?_⟩
 replace H := H.toBelow hb; clear hb
 refine Y.b rfl <| Y.z <| Y.qr <| Y.a rfl <| Y.v (Ev.neq rfl rfl) <| Y.z ?_
 refine WP.cond rfl (fun hc2 => ?_) (fun hc2 => ?_)
 ·refine Y.qr <| Y.v (Ev.build (bld_49_ (e := fun _ => .int .i64 0))) <| Y.a rfl <| Y.ss 0 H rfl (cA rfl) rfl ?_
  clear H; intro w H
  refine Y.b rfl <| Y.z ?_
  refine WP.ret ⟨[_, _], ⟨(by exact resCellA 0 H rfl (agg_run rfl) (size_run rfl) (by rfl) rfl), rfl, trivial⟩, ?_⟩
  have h : askErr n l ts ns hd rt rn ≠ 0 := by simpa using hc2
  exact ⟨_, _, [], none, 0, [], rfl, .no h, (fun _ _ _ _ => OnesAt.nil), H.drop (List.nil_sublist _)⟩
 have h0 : askErr n l ts ns hd rt rn = 0 := by simpa using hc2
 obtain ⟨m, rfl, hk⟩ := askOk_of h0
 obtain ⟨q, rfl⟩ := Int.eq_ofNat_of_zero_le hk.tr.1
 have hq : q < ts.length := by have := hk.tr.2; omega
 refine Y.k <| Y.qr <| Y.v (Y.o H 1 rfl rfl) <| Y.a rfl <| Y.v (Ev.mvS rfl) <| OPS.call (d := some 21) rfl rfl rfl (EvC.func (fun_run rfl)) (rBegin m hd q A B C R l ts ns rn ca cb cc cr false w (hz.sh H) (ht.sh H) (hn.sh H) (hr.sh H) hq hk) ?_
 rintro _ w ⟨T, tc, Lt, rfl, hT, Hc⟩
 refine ⟨_, rfl, ?_⟩
 replace H := SH.call (L1 := [_, _]) (Lv := []) H Hc
 clear Hc
 simp only [List.cons_append, List.nil_append] at H
 refine OPS.call (d := some 22) rfl rfl rfl (EvC.func (fun_run rfl)) ((rTry m hd q A B C R T l ts ns rn ca cb cc cr tc false hq hk rn.length [] (by simp) (by simp) (by simp)) none (fun _ => False) none none 0 0 0 false 0 0 w (hn.sh H) (hr.sh H) (hT.at H Sb.out) OnesAt.nil rfl (fun x hx => by cases hx) (fun x hx => by cases hx) IsBest.zero) ?_
 rintro _ w ⟨s, fd, O', X, ol', oc', xl, xc, mv, sc, Lc, rfl, hst, hs6, hbs, hkp, Hc⟩
 refine ⟨_, rfl, ?_⟩
 replace H := SH.call (L1 := _) (Lv := []) (by rw [List.append_nil]; exact H) Hc
 clear Hc
 have hbest : IsBest (mvL ns) (secsD m l ts ns hd q) (SubP m l ts ns hd q rn) s := hbs.congr fun o => by rw [false_or, ext_some hk]
 have hem : SubP m l ts ns hd q rn [] := ⟨⟨by simp, by simp⟩, hk.nil⟩
 obtain ⟨x, rfl⟩ : ∃ x, s = some x := by
  cases s with
  | none => exact absurd hem (hbest [])
  | some x => exact ⟨x, rfl⟩
 obtain ⟨_, rfl, _, _⟩ := hst
 have hRx : Reads Lc (fun w => IntsAt w X x) := by
  rcases hkp with ⟨h, _⟩ | h
  ·cases h
  ·exact h x rfl
 unfold srL
 refine Y.al H rfl rfl ?_
 clear H; intro g9 w H
 refine Y.st 0 H rfl (cA rfl) rfl ?_
 clear H; intro w H
 simp only [List.set_cons_zero, List.set_cons_succ, List.cons_append, putL] at H
 refine Y.z <| Y.qr <| Y.a rfl <| Y.fa rfl rfl <| Y.j H 0 rfl rfl rfl <| Y.v (Ev.build (bld_49_0_1 rfl rfl)) <| Y.ss 1 H rfl (cA rfl) rfl ?_
 clear H; intro w H
 refine Y.b rfl <| Y.z ?_
 refine WP.ret ⟨[_, _], ⟨(by exact resCellA 1 H rfl (agg_run rfl) (size_run rfl) (by rfl) rfl), rfl, trivial⟩, ?_⟩
 exact ⟨_, _, x, X, xc, Lc, rfl, .ok h0 (some x) hbest, hRx, H.drop Sb.out⟩
end Go.Proofs.YtgcokllbophkkaaGreat
namespace Go.Proofs.YtgcokllbophkkaaGreat
open Go Go.W Go.RowKit
open Go.ChangeShapes Go.WideShapes Go.ChangeAt
theorem own : ownKnob Tryz.prog.godebug = none := by kernel_rfl
theorem laidOut : laidOutB Tryz.prog = true := by kernel_rfl
section
variable {H : Type} {enc : TypeId × Value → H} {w : World} {base : Nat} {spare : Nat → Bool} {held : Bool}
theorem rdInt : Rd enc Tryz.prog w base spare held 3 (fun n : Int => [I n]) (fun n => (Lit.int .i64 n).wf = true) := Rd.int Tryz.underlying3
theorem rdEdge3 : Rd enc Tryz.prog w base spare held 85 (fun p : Int × Int × Int × Unit => [I p.1] ++ ([I p.2.1] ++ ([I p.2.2.1] ++ [])))
  (fun p => (Lit.int .i64 p.1).wf = true ∧ (Lit.int .i64 p.2.1).wf = true ∧ (Lit.int .i64 p.2.2.1).wf = true ∧ True) := by
 refine Rd.struct (tot := 3) Tryz.underlying85 (by kernel_rfl) ?_
 exact RdF.cons (sz := 1) rdInt rfl rfl (by kernel_rfl) (RdF.cons (sz := 1) rdInt rfl rfl (by kernel_rfl) (RdF.cons (sz := 1) rdInt rfl rfl (by kernel_rfl) RdF.nil))
theorem rdEdge : Rd enc Tryz.prog w base spare held 85 edgCells (fun _ => True) := rdEdge3.conv (fun p => ⟨p.1, p.2.1, p.2.2.1⟩) (fun _ => rfl) (fun _ _ => trivial)
theorem rdEdges : Rd enc Tryz.prog w base spare held 22 (slCells (α := Edg)) (SlG w 3 edgCells (fun _ => True)) := Rd.slice Tryz.underlying22 (by kernel_rfl) (by decide) rdEdge
theorem rdRoad : Rd enc Tryz.prog w base spare held 24 (fun p : Int × SlA Edg × Unit => [I p.1] ++ (slCells p.2.1 ++ [])) (fun p => (Lit.int .i64 p.1).wf = true ∧ SlG w 3 edgCells (fun _ => True) p.2.1 ∧ True) := by
 refine Rd.struct (tot := 2) Tryz.underlying24 (by kernel_rfl) ?_
 exact RdF.cons (sz := 1) rdInt rfl rfl (by kernel_rfl) (RdF.cons (sz := 1) rdEdges rfl rfl (by kernel_rfl) RdF.nil)
theorem rdWin : Rd enc Tryz.prog w base spare held 79 (fun p : Int × Int × Unit => [I p.1] ++ ([I p.2.1] ++ [])) (fun p => (Lit.int .i64 p.1).wf = true ∧ (Lit.int .i64 p.2.1).wf = true ∧ True) := by
 refine Rd.struct (tot := 2) Tryz.underlying79 (by kernel_rfl) ?_
 exact RdF.cons (sz := 1) rdInt rfl rfl (by kernel_rfl) (RdF.cons (sz := 1) rdInt rfl rfl (by kernel_rfl) RdF.nil)
theorem rdTruck4 : Rd enc Tryz.prog w base spare held 81 (fun p : Int × Int × (Int × Int × Unit) × Unit => [I p.1] ++ ([I p.2.1] ++ (([I p.2.2.1.1] ++ ([I p.2.2.1.2.1] ++ [])) ++ [])))
  (fun p => (Lit.int .i64 p.1).wf = true ∧ (Lit.int .i64 p.2.1).wf = true ∧ ((Lit.int .i64 p.2.2.1.1).wf = true ∧ (Lit.int .i64 p.2.2.1.2.1).wf = true ∧ True) ∧ True) := by
 refine Rd.struct (tot := 4) Tryz.underlying81 (by kernel_rfl) ?_
 exact RdF.cons (sz := 1) rdInt rfl rfl (by kernel_rfl) (RdF.cons (sz := 1) rdInt rfl rfl (by kernel_rfl) (RdF.cons (sz := 2) rdWin rfl rfl (by kernel_rfl) RdF.nil))
theorem rdTruck : Rd enc Tryz.prog w base spare held 81 truckCells (fun _ => True) := rdTruck4.conv (fun p => ⟨p.1, p.2.1, p.2.2.1.1, p.2.2.1.2.1⟩) (fun _ => rfl) (fun _ _ => trivial)
theorem rdTrucks : Rd enc Tryz.prog w base spare held 25 (slCells (α := Truck)) (SlG w 4 truckCells (fun _ => True)) := Rd.slice Tryz.underlying25 (by kernel_rfl) (by decide) rdTruck
theorem rdNeed2 : Rd enc Tryz.prog w base spare held 68 (fun p : Int × Int × Unit => [I p.1] ++ ([I p.2.1] ++ [])) (fun p => (Lit.int .i64 p.1).wf = true ∧ (Lit.int .i64 p.2.1).wf = true ∧ True) := by
 refine Rd.struct (tot := 2) Tryz.underlying68 (by kernel_rfl) ?_
 exact RdF.cons (sz := 1) rdInt rfl rfl (by kernel_rfl) (RdF.cons (sz := 1) rdInt rfl rfl (by kernel_rfl) RdF.nil)
theorem rdNeed : Rd enc Tryz.prog w base spare held 68 needCells (fun _ => True) := rdNeed2.conv (fun p => ⟨p.1, p.2.1⟩) (fun _ => rfl) (fun _ _ => trivial)
theorem rdNeeds : Rd enc Tryz.prog w base spare held 26 (slCells (α := Need)) (SlG w 2 needCells (fun _ => True)) := Rd.slice Tryz.underlying26 (by kernel_rfl) (by decide) rdNeed
theorem rdNight5 : Rd enc Tryz.prog w base spare held 28 (fun p : (Int × SlA Edg × Unit) × SlA Truck × SlA Need × Int × Unit => ([I p.1.1] ++ (slCells p.1.2.1 ++ [])) ++ (slCells p.2.1 ++ (slCells p.2.2.1 ++ ([I p.2.2.2.1] ++ []))))
  (fun p => ((Lit.int .i64 p.1.1).wf = true ∧ SlG w 3 edgCells (fun _ => True) p.1.2.1 ∧ True) ∧ SlG w 4 truckCells (fun _ => True) p.2.1 ∧ SlG w 2 needCells (fun _ => True) p.2.2.1 ∧ (Lit.int .i64 p.2.2.2.1).wf = true ∧ True) := by
 refine Rd.struct (tot := 5) Tryz.underlying28 (by kernel_rfl) ?_
 exact RdF.cons (sz := 2) rdRoad rfl rfl (by kernel_rfl) (RdF.cons (sz := 1) rdTrucks rfl rfl (by kernel_rfl) (RdF.cons (sz := 1) rdNeeds rfl rfl (by kernel_rfl) (RdF.cons (sz := 1) rdInt rfl rfl (by kernel_rfl) RdF.nil)))
structure Ngt where
 n : Int
 E : SlA Edg
 T : SlA Truck
 N : SlA Need
 hd : Int
def ngtCells (g : Ngt) : List Value := [I g.n, .slice g.E.A g.E.l.length g.E.cap, .slice g.T.A g.T.l.length g.T.cap, .slice g.N.A g.N.l.length g.N.cap, I g.hd]
theorem rdNight : Rd enc Tryz.prog w base spare held 28 ngtCells (fun g => NightAt w g.E.A g.T.A g.N.A g.E.l g.T.l g.N.l g.N.cap) :=
 rdNight5.conv (fun p => ⟨p.1.1, p.1.2.1, p.2.1, p.2.2.1, p.2.2.2.1⟩) (fun _ => rfl) (fun _ h => ⟨h.1.2.1.rows, h.2.1.rows, h.2.2.1.rows, h.2.2.1.le⟩)
end
end Go.Proofs.YtgcokllbophkkaaGreat
namespace Go.Proofs.YtgcokllbophkkaaGreat
open Go Go.W Go.RowKit
instance (L M : List Blk) (b : Blk) [h : Sb L M] : Sb (b :: L) (b :: M) := ⟨h.out.cons_cons b⟩
instance (L L' M M' : List Blk) [h : Sb L L'] [h2 : Sb M M'] : Sb (L ++ M) (L' ++ M') := ⟨h.out.append h2.out⟩
section
variable (m : Nat) (l : List Edg) (ts : List Truck) (ns : List Need) (hd : Int) (q : Nat)
noncomputable def nodeD (ns : List Need) (i : Int) : Nat := (needAt ns i).node.toNat
noncomputable def nextS (a : Nat) (os : List Int) (b : Option Int) (i : Int) : Option Int :=
 if i ∈ os ∨ walkE m l ts ns hd q (os ++ [i]) ≠ 0 then b else
 match b with
 | none => some i
 | some j => if roadT m l a (nodeD ns i) < roadT m l a (nodeD ns j) then some i else some j
noncomputable def nextN (a : Nat) (os left : List Int) : Option Int := left.foldl (nextS m l ts ns hd q a os) none
noncomputable def atN (os : List Int) : Nat := match os.getLast? with
 | none => (ts.getD q default).depot.toNat
 | some i => nodeD ns i
noncomputable def greedyL (left : List Int) : Nat → List Int → List Int
 | 0, os => os
 | k + 1, os => match nextN m l ts ns hd q (atN ts ns q os) os left with
  | none => os
  | some i => greedyL left k (os ++ [i])
def RouteR (left x : List Int) : Prop := (left.length ≤ 6 ∧ IsBest (mvL ns) (secsD m l ts ns hd q) (SubP m l ts ns hd q left) (some x)) ∨ (6 < left.length ∧ x = greedyL m l ts ns hd q left left.length [])
end
section
variable (m : Nat) (l : List Edg) (ts : List Truck) (ns : List Need) (hd : Int)
inductive MkR : Nat → List (Int × List Int) → List Int → Prop
 | start : MkR 0 [] (upto ns.length)
 | skip {j : Nat} {R : List (Int × List Int)} {left : List Int} (h : MkR j R left) (hr : RouteR m l ts ns hd j left []) : MkR (j + 1) R left
 | add {j : Nat} {R : List (Int × List Int)} {left x : List Int} (h : MkR j R left) (hr : RouteR m l ts ns hd j left x) (hx : x ≠ []) : MkR (j + 1) (R ++ [((j : Int), x)]) (left.filter fun i => !decide (i ∈ x))
structure MakeAns (n : Int) (e : Int) (R : List (Int × List Int)) (left : List Int) : Prop where
 err : e = nightErr n l ts ns hd
 bad : e ≠ 0 → R = [] ∧ left = []
 good : e = 0 → ∃ m : Nat, n = m ∧ MkR m l ts ns hd ts.length R left
end
section
variable {m : Nat} {l : List Edg} {ts : List Truck} {ns : List Need} {hd : Int} {q : Nat}
theorem RouteR.unique {left x y : List Int} (h : RouteR m l ts ns hd q left x) (h' : RouteR m l ts ns hd q left y) : x = y := by
 rcases h with ⟨h1, h2⟩ | ⟨h1, h2⟩ <;> rcases h' with ⟨h3, h4⟩ | ⟨h3, h4⟩
 ·exact Option.some.inj (h2.unique h4)
 ·omega
 ·omega
 ·rw [h2, h4]
theorem MkR.unique {j : Nat} {R : List (Int × List Int)} {left : List Int} (h : MkR m l ts ns hd j R left) : ∀ {R' : List (Int × List Int)} {left' : List Int}, MkR m l ts ns hd j R' left' → R = R' ∧ left = left' := by
 induction h with
 | start => intro R' left' h'; cases h'; exact ⟨rfl, rfl⟩
 | skip h hr ih =>
  intro R' left' h'
  cases h' with
  | skip h2 hr2 => exact ih h2
  | add h2 hr2 hx2 =>
   obtain ⟨_, rfl⟩ := ih h2
   exact absurd (hr2.unique hr) hx2
 | add h hr hx ih =>
  intro R' left' h'
  cases h' with
  | skip h2 hr2 =>
   obtain ⟨_, rfl⟩ := ih h2
   exact absurd (hr.unique hr2) hx
  | add h2 hr2 hx2 =>
   obtain ⟨rfl, rfl⟩ := ih h2
   obtain rfl := hr.unique hr2
   exact ⟨rfl, rfl⟩
theorem MakeAns.unique {n e e' : Int} {R R' : List (Int × List Int)} {left left' : List Int} (h : MakeAns l ts ns hd n e R left) (h' : MakeAns l ts ns hd n e' R' left') : e = e' ∧ R = R' ∧ left = left' := by
 have he : e = e' := h.err.trans h'.err.symm
 refine ⟨he, ?_⟩
 by_cases h0 : e = 0
 ·obtain ⟨m, hm, hM⟩ := h.good h0
  obtain ⟨m', hm', hM'⟩ := h'.good (he ▸ h0)
  obtain rfl : m = m' := by omega
  exact hM.unique hM'
 ·obtain ⟨rfl, rfl⟩ := h.bad h0
  obtain ⟨rfl, rfl⟩ := h'.bad (he ▸ h0)
  exact ⟨rfl, rfl⟩
theorem nextS_cases {a : Nat} {os : List Int} {b : Option Int} {i : Int} : nextS m l ts ns hd q a os b i = b ∨ (nextS m l ts ns hd q a os b i = some i ∧ i ∉ os ∧ walkE m l ts ns hd q (os ++ [i]) = 0) := by
 unfold nextS
 by_cases h : i ∈ os ∨ walkE m l ts ns hd q (os ++ [i]) ≠ 0
 ·rw [if_pos h]; exact .inl rfl
 ·rw [if_neg h]
  have h2 : i ∉ os ∧ walkE m l ts ns hd q (os ++ [i]) = 0 := by
   refine ⟨fun h3 => h (.inl h3), ?_⟩
   by_cases h4 : walkE m l ts ns hd q (os ++ [i]) = 0
   ·exact h4
   ·exact absurd (.inr h4) h
  cases b with
  | none => exact .inr ⟨rfl, h2⟩
  | some j =>
   by_cases h5 : roadT m l a (nodeD ns i) < roadT m l a (nodeD ns j)
   ·exact .inr ⟨if_pos h5, h2⟩
   ·exact .inl (if_neg h5)
theorem nextN_some : ∀ (left : List Int) {a : Nat} {os : List Int} {b : Option Int} {i : Int}, left.foldl (nextS m l ts ns hd q a os) b = some i → b = some i ∨ (i ∈ left ∧ i ∉ os ∧ walkE m l ts ns hd q (os ++ [i]) = 0)
 | [], _, _, _, _, h => .inl h
 | x :: left, a, os, b, i, h => by
  rw [List.foldl_cons] at h
  rcases nextN_some left h with h1 | ⟨h1, h2⟩
  ·rcases nextS_cases (m := m) (l := l) (ts := ts) (ns := ns) (hd := hd) (q := q) (a := a) (os := os) (b := b) (i := x) with h3 | ⟨h3, h4⟩
   ·exact .inl (h3 ▸ h1)
   ·rw [h3] at h1
    cases h1
    exact .inr ⟨List.mem_cons_self, h4⟩
  ·exact .inr ⟨List.mem_cons_of_mem _ h1, h2⟩
structure GrOk (m : Nat) (l : List Edg) (ts : List Truck) (ns : List Need) (hd : Int) (q : Nat) (left os : List Int) : Prop where
 nd : os.Nodup
 sub : ∀ i ∈ os, i ∈ left
 walk : os = [] ∨ walkE m l ts ns hd q os = 0
theorem GrOk.nil {left : List Int} : GrOk m l ts ns hd q left [] := ⟨List.nodup_nil, by simp, .inl rfl⟩
theorem GrOk.step {left os : List Int} {a : Nat} {i : Int} (h : GrOk m l ts ns hd q left os) (hi : nextN m l ts ns hd q a os left = some i) : GrOk m l ts ns hd q left (os ++ [i]) ∧ i ∈ left ∧ i ∉ os := by
 rcases nextN_some left hi with h1 | ⟨h1, h2, h3⟩
 ·cases h1
 ·refine ⟨⟨?_, fun x hx => ?_, .inr h3⟩, h1, h2⟩
  ·rw [List.nodup_append]
   exact ⟨h.nd, by simp, fun a ha b hb he => by simp at hb; subst hb he; exact h2 ha⟩
  ·rcases List.mem_append.1 hx with hx | hx
   ·exact h.sub x hx
   ·simp at hx; subst hx; exact h1
theorem greedy_ok {left : List Int} : ∀ (k : Nat) {os : List Int}, GrOk m l ts ns hd q left os → GrOk m l ts ns hd q left (greedyL m l ts ns hd q left k os)
 | 0, _, h => h
 | k + 1, os, h => by
  rw [greedyL]
  cases hn : nextN m l ts ns hd q (atN ts ns q os) os left with
  | none => exact h
  | some i => exact greedy_ok k (h.step hn).1
end
end Go.Proofs.YtgcokllbophkkaaGreat
namespace Go.Proofs.YtgcokllbophkkaaGreat
open Go Go.W Go.RowKit
def encB : Option Int → Int
  | none => -1
  | some i => i
theorem onesLt {α : Type} {enc : α → Value} {w : World} {A : Option Addr} {l : List α} (h : OnesAt enc w A l) (hl : 0 < l.length) : ∃ b o, A = some ⟨b, o, none⟩ ∧ ∀ k (hk : k < l.length), w.cell? ⟨b, o + k, none⟩ = some (enc (l[k]'hk)) := by
  obtain ⟨b, o, rfl, _⟩ := h 0 hl
  refine ⟨b, o, rfl, fun k hk => ?_⟩
  obtain ⟨b', o', e, hc⟩ := h k hk
  cases e; exact hc
theorem planGreedy (g m q : Nat) (hd : Int) (A B C F : Option Addr) (l : List Edg) (ts : List Truck) (ns : List Need) (left : List Int) (ca cb cc cf : Nat) (w0 : World) (hN : NightAt w0 A B C l ts ns cc) (hF : IntsAt w0 F left)
    (hg : cellsAt w0 g 0 [I m, .slice A l.length ca, .slice B ts.length cb, .slice C ns.length cc, I hd]) (hK : NightOk m l ts ns hd) (hq : q < ts.length) (hin : ∀ i ∈ left, 0 ≤ i ∧ i < (ns.length : Int)) (hll : left.length ≤ 1000) :
    Calls Tryz.prog 26 #[.pointer (some ⟨g, 0, none⟩), I q, .slice F left.length cf] w0 fun e w' => ∃ (x : List Int) (X : Option Addr) (c : Nat) (L : List Blk), e = .returned (.agg #[I q, .slice X x.length c]) ∧ x = greedyL m l ts ns hd q left left.length [] ∧ OwnS X c x.length (x.map I) 3 1 L ∧ SH w0 [] w' L := by
  have H := SH.refl w0
  have htr := hK.tr ts[q] (List.getElem_mem hq)
  obtain ⟨dp, hdp⟩ := Int.eq_ofNat_of_zero_le htr.1.1
  have hnode : ∀ (i : Nat) (h : i < ns.length), nodeD ns i < m ∧ ns[i].node = (nodeD ns i : Nat) := fun i h => by
    have h1 := hK.nd ns[i] (List.getElem_mem h)
    unfold nodeD; rw [needAt_eq h]; omega
  have hgl : greedyL m l ts ns hd q left left.length [] = greedyL m l ts ns hd q left left.length [] := rfl
  refine Calls.ofWPc Tryz.func26 rfl Tryz.results26 Tryz.ntmps26 rfl <| Y.qr <| Y.al H rfl rfl ?_
  clear H; intro g6 w H
  refine Y.z <| Y.qr <| Y.v (Ev.mvP rfl) <| Y.v (Ev.nilCheckP rfl) <| Y.fa rfl rfl ?_
  have hg' := cellsAt_sh H hg
  refine Y.v (by (change Ev _ _ _ _ (Op.load 28 (Operand.tmp 21)) _; exact Ev.loadN [I m, .slice A l.length ca, .slice B ts.length cb, .slice C ns.length cc, I hd] (agg_run rfl) (size_run rfl) rfl hg')) <| Y.al H rfl rfl ?_
  clear H; intro g7 w H
  refine Y.ss 0 H rfl (cA rfl) rfl ?_
  clear H; intro w H
  refine Y.z <| Y.qr <| Y.a rfl <| Y.v (Ev.build (bld_49_0 rfl)) <| Y.al H rfl rfl ?_
  clear H; intro g8 w H
  refine Y.ss 0 H rfl (cA rfl) rfl ?_
  clear H; intro w H
  refine Y.z <| Y.q ?_
  obtain ⟨bt, ot, rfl, htc⟩ := hN.t q hq
  obtain ⟨q1, _⟩ := htc
  rw [hdp] at q1
  refine Y.r <| Y.fa rfl rfl <| Y.j H 1 rfl rfl rfl <| Y.a rfl <| Y.v (Y.X rfl rfl rfl rfl rfl) <| Y.fa rfl rfl <| Y.v (Y.c (H.ld0 (by assumption)) rfl) ?_
  refine Y.b rfl <| Y.z <| Y.q <| WP.block <| WP.loop [9, 10, 11, 12, 14, 15, 16, 17, 18, 31, 32, 33, 34, 35, 36, 37, 38, 39, 40, 41, 42, 43, 44, 45, 46, 47, 48, 49, 50, 51, 52, 53, 54, 55, 56, 57, 58, 59, 60, 61, 62, 63, 64, 65, 66, 67, 68, 69, 70, 71, 72, 73, 74, 75, 76, 77, 78, 79, 80, 81, 82, 83, 84, 85, 86, 87, 88, 89, 90, 91, 92, 93, 94, 95, 96, 97, 98, 99, 100, 101, 102, 103, 104, 105, 106, 107, 108, 109, 110, 111, 112, 113, 114, 115] (fun k e w' => ∃ (os : List Int) (a : Nat) (V : Option Addr) (cv : Nat) (Lv : List Blk), e 9 = I a ∧ a < m ∧ a = atN ts ns q os ∧ os.length + k = left.length ∧ greedyL m l ts ns hd q left k os = greedyL m l ts ns hd q left left.length [] ∧ GrOk m l ts ns hd q left os ∧ OwnS V cv os.length (os.map I) 3 1 Lv ∧ SH w0 [] w' ([⟨g8, 49, [I q, .slice V os.length cv]⟩, ⟨g7, 28, [I m, .slice A l.length ca, .slice (some ⟨bt, ot, none⟩) ts.length cb, .slice C ns.length cc, I hd]⟩, ⟨g6, 49, [I 0, .slice none 0 0]⟩] ++ Lv)) (left.length) (⟨[], dp, none, 0, [], rfl, by omega, (by unfold atN; simp [hq]; omega), by simp, rfl, GrOk.nil, OwnS.nil, H⟩) ?_
  clear H
  rintro k u w ⟨os, a, V, cv, Lv, h9, ham, hae, hkk, hgr, hGr, hOV, H⟩
  refine WP.know (t := 9) h9 ?_
  simp only [List.cons_append, List.nil_append] at H
  refine Y.q <| Y.qr <| Y.fa rfl rfl <| Y.j H 0 rfl rfl rfl <| Y.v (Y.n rfl) <| Y.v (Ev.mvS rfl) <| Y.v (Y.n rfl) <| Y.v (Ev.lss rfl rfl) <| Y.z ?_
  refine WP.cond rfl (fun hc4 => ?_) (fun hc4 => ?_)
  · obtain ⟨k, rfl⟩ : ∃ k', k = k' + 1 := ⟨k - 1, by have : os.length < left.length := by simpa using hc4
                                                     omega⟩
    obtain ⟨hte, htl⟩ := timesOf_ok hK.road ham
    have htn := timesL_length m l a
    have htc := fun w hz => roadTimes m a A l ca w hz
    rw [htl, hte, htn] at htc
    rw [greedyL, ← hae] at hgr
    refine Y.k <| WP.block <| Y.qr <| Y.fa rfl rfl <| Y.v (Ev.loadN [_, _] (agg_run rfl) (size_run rfl) rfl ⟨H.ldL 1 rfl _ rfl, H.ldL 1 rfl _ rfl, trivial⟩) <| Y.a rfl <| OPS.call (d := some 41) rfl rfl rfl (EvC.func (fun_run rfl)) (htc w (hN.sh H).l) ?_
    rintro _ w ⟨TA, Lc, rfl, hOL, Hc⟩
    refine ⟨_, rfl, ?_⟩
    replace H := SH.call (L1 := _) (Lv := []) (by rw [List.append_nil]; exact H) Hc
    clear Hc
    simp only [List.cons_append] at H
    refine Y.v (Ev.mvT rfl) <| Y.v (Ev.extract rfl rfl) <| Y.v (Ev.extract rfl rfl) <| Y.v (Ev.asS rfl) <| Y.b rfl <| Y.z <| Y.q <| Y.qr <| Y.a rfl <| Y.v (Ev.neq rfl rfl) <| Y.z ?_
    refine WP.cond rfl (fun hc6 => ?_) (fun hc6 => ?_)
    · refine Y.qr <| Y.v (Y.o H 0 rfl rfl) <| Y.ss 2 H rfl (cA rfl) rfl ?_
      clear H; intro w H
      refine Y.z ?_
      refine WP.ret ⟨[_], ⟨(by exact resCellA 2 H rfl (agg_run rfl) (size_run rfl) (by rfl) rfl), trivial⟩, ?_⟩
      exact absurd hc6 (by simp)
    refine Y.k <| Y.qr <| Y.b rfl <| Y.z <| Y.q <| Y.qr <| Y.v (Ev.mvS rfl) <| Y.v (Y.n rfl) <| Y.a rfl <| Y.z <| WP.block <| WP.loop [12, 14, 15, 16, 17, 18, 49, 50, 51, 52, 53, 54, 55, 56, 57, 58, 59, 60, 61, 62, 63, 64, 65, 66, 67, 68, 69, 70, 71, 72, 73, 74, 75, 76, 77, 78, 79, 80, 81, 82, 83, 84, 85, 86, 87, 88, 89, 90, 91, 92, 93, 94, 95, 96, 97, 98, 99, 100] (fun k e w' => ∃ (j : Nat) (b : Option Int), j + k = left.length ∧ e 49 = I j ∧ e 12 = I (encB b) ∧ b = (left.take j).foldl (nextS m l ts ns hd q a os) none ∧ SH w0 [] w' (⟨g8, 49, [I q, .slice V os.length cv]⟩ :: ⟨g7, 28, [I m, .slice A l.length ca, .slice (some ⟨bt, ot, none⟩) ts.length cb, .slice C ns.length cc, I hd]⟩ :: ⟨g6, 49, [I 0, .slice none 0 0]⟩ :: (Lv ++ Lc))) (left.length) (⟨0, none, by omega, rfl, rfl, rfl, H⟩) ?_
    clear H
    rintro k2 u2 w ⟨j, b, hk2, h49, h12, hb, H⟩
    refine WP.know (t := 49) h49 (WP.know (t := 12) h12 ?_)
    refine Y.qr <| Y.v (Ev.lss rfl rfl) <| Y.z <| Y.q ?_
    refine WP.cond rfl (fun hc10 => ?_) (fun hc10 => ?_)
    · have hlt : j < left.length := by simpa using hc10
      obtain ⟨bl, ol, rfl, hx⟩ := hF j hlt
      have hir := hin left[j] (List.getElem_mem hlt)
      obtain ⟨i, hi⟩ := Int.eq_ofNat_of_zero_le hir.1
      have htk : (left.take (j + 1)).foldl (nextS m l ts ns hd q a os) none = nextS m l ts ns hd q a os b (i : Int) := by
        rw [List.take_succ_eq_append_getElem hlt, List.foldl_append, ← hb, hi]; rfl
      rw [hi] at hx hir
      have hil : i < ns.length := by omega
      obtain ⟨bn, on, hCe, hy⟩ := hN.n i hil
      obtain ⟨hni, hnn⟩ := hnode i hil
      obtain ⟨q2, _⟩ := hy
      rw [hnn] at q2
      have hbz : ∀ z, b = some z → 0 ≤ z ∧ z < (ns.length : Int) := fun z hz => by
        rcases nextN_some _ (hb.symm.trans hz) with h | ⟨h, _⟩
        · cases h
        · exact hin z (List.mem_of_mem_take h)
      have hzz : 0 ≤ encB b → b = some (encB b) ∧ encB b = ((encB b).toNat : Int) ∧ (encB b).toNat < ns.length := fun h => by
        cases hbb : b with
        | none => rw [hbb] at h; exact absurd h (by decide)
        | some z =>
          have := hbz z hbb
          have he : encB (some z) = z := rfl
          rw [he]
          exact ⟨rfl, by omega, by omega⟩
      have hzn : 0 ≤ encB b → w0.cell? ⟨bn, on + (encB b).toNat * 2, none⟩ = some (I (nodeD ns (encB b) : Nat)) := fun h => by
        obtain ⟨_, h2, h3⟩ := hzz h
        obtain ⟨b', o', e', hy'⟩ := hN.n (encB b).toNat h3
        rw [hCe] at e'; cases e'
        obtain ⟨h4, h5⟩ := hnode (encB b).toNat h3
        have h6 := hy'.1
        rw [h5, ← h2] at h6
        exact h6
      have hzm : 0 ≤ encB b → nodeD ns (encB b) < m := fun h => by
        obtain ⟨_, h2, h3⟩ := hzz h
        have := (hnode (encB b).toNat h3).1
        rwa [← h2] at this
      subst hCe
      have hcl : ∀ {x : Bool}, ((x == false) && (decide (0 ≤ encB b) == true)) = true → 0 ≤ encB b := fun h => by
        simp at h; exact h.2
      have hcn : ∀ {x y : Bool}, ((x == false) && (y == true)) = true → y = true := fun h => by
        simp at h; exact h.2
      refine Y.k <| Y.q <| WP.block <| Y.qr <| Y.v (Y.x rfl rfl rfl rfl) <| Y.v (Y.c (H.ld0 (by assumption)) rfl) ?_
      refine Y.b rfl <| Y.z <| Y.q <| Y.q ?_
      obtain ⟨bT, oT, rfl, hcT⟩ := onesLt (hOL.rd H (fun b hb => List.mem_cons_of_mem _ (List.mem_cons_of_mem _ (List.mem_cons_of_mem _ (List.mem_append_right _ hb))))) (by rw [htn]; omega)
      have q3 := hcT (nodeD ns i) (by rw [htn]; exact hni)
      rw [timesL_at] at q3
      have q4 : 0 ≤ encB b → w.cell? ⟨bT, oT + nodeD ns (encB b), none⟩ = some (I (roadT m l a (nodeD ns (encB b)))) := fun h => by
        have := hcT (nodeD ns (encB b)) (by rw [htn]; exact hzm h)
        rwa [timesL_at] at this
      have hVi := (hOV.ones (R := []) (H.drop (L' := Lv) Sb.out)).1
      refine WP.rquiet mixed (by kernel_rfl) H ?_
      clear H; intro w hbw12 H
      refine Y.fa rfl rfl ?_
      replace q3 := cell_below hbw12 q3
      replace q4 := fun h => cell_below hbw12 (q4 h)
      refine Y.j H 0 rfl rfl rfl <| Y.a rfl <| OPS.callq rfl rfl rfl (EvC.func (fun_run rfl)) (fun w2 hb2 => slContains V os cv i w2 ((hVi.below hbw12).below hb2) (by unfold maxLen; omega)) ?_
      refine Y.v (Ev.mvB rfl) <| Y.g rfl rfl (fun hg => Y.m rfl) <| Y.g rfl rfl (fun hg => Ev.geq (gvE hg rfl) rfl) <| Y.g rfl rfl (fun hg => Ev.mvB (gvE hg rfl)) <| OPS.gvalN rfl rfl (GB.g rfl) rfl rfl (fun hg => Ev.mvS rfl) <| OPS.gvalN rfl rfl (GB.g rfl) rfl rfl (fun hg => Ev.fieldAddr (fld_run rfl) rfl) <| OPS.gvalN rfl rfl (GB.g rfl) rfl rfl (fun hg => Ev.load1 (agg_run rfl) (gvE hg rfl) (H.ldL 1 rfl _ rfl)) <| OPS.gvalN rfl rfl (GB.g rfl) rfl rfl (fun hg => Ev.mvI rfl) <| OPS.gvalN rfl rfl (GB.g rfl) rfl rfl (fun hg => (Ev.indexAddr (el_run rfl) (size_run rfl) (gvE hg rfl) (gvE hg rfl) rfl (by omega))) <| OPS.gvalN rfl rfl (GB.g rfl) rfl rfl (fun hg => Ev.fieldAddr (fld_run rfl) (gvE hg rfl)) <| OPS.gvalN rfl rfl (GB.g rfl) rfl rfl (fun hg => Ev.load1 (agg_run rfl) (gvE hg rfl) (H.ld0 (by assumption))) ?_
      refine OPS.gvalN rfl rfl (GB.g rfl) rfl rfl (fun hg => (Ev.indexAddr1 (el_run rfl) (size_run rfl) (gvE hg rfl) (gvE hg rfl) rfl (by omega))) <| OPS.gvalN rfl rfl (GB.g rfl) rfl rfl (fun hg => Ev.load1 (agg_run rfl) (gvE hg rfl) (by assumption)) ?_
      refine OPS.gvalN rfl rfl (GB.g rfl) rfl rfl (fun hg => Ev.mvS rfl) <| OPS.gvalN rfl rfl (GB.g rfl) rfl rfl (fun hg => Ev.fieldAddr (fld_run rfl) rfl) <| OPS.gvalN rfl rfl (GB.g rfl) rfl rfl (fun hg => Ev.load1 (agg_run rfl) (gvE hg rfl) (H.ldL 1 rfl _ rfl)) <| OPS.gvalN rfl rfl (GB.g rfl) rfl rfl (fun hg => Ev.mvI rfl) <| OPS.gvalN (v := .pointer (some ⟨bn, on + (encB b).toNat * 2, none⟩)) rfl rfl (GB.g rfl) rfl rfl (fun hg => Ev.indexAddr (j := (encB b).toNat) (el_run rfl) (size_run rfl) (gvE hg rfl) (gvE hg rfl) (hzz (hcl hg)).2.1 (hzz (hcl hg)).2.2) <| OPS.gvalN rfl rfl (GB.g rfl) rfl rfl (fun hg => Ev.fieldAddr (fld_run rfl) (gvE hg rfl)) <| OPS.gvalN (v := I (nodeD ns (encB b) : Nat)) rfl rfl (GB.g rfl) rfl rfl (fun hg => Ev.load1 (agg_run rfl) (gvE hg rfl) (H.ld0 (hzn (hcl hg)))) <| OPS.gvalN (v := .pointer (some ⟨bT, oT + nodeD ns (encB b), none⟩)) rfl rfl (GB.g rfl) rfl rfl (fun hg => Ev.indexAddr1 (el_run rfl) (size_run rfl) (gvE hg rfl) (gvE hg rfl) rfl (hzm (hcl hg))) <| OPS.gvalN (v := I (roadT m l a (nodeD ns (encB b)))) rfl rfl (GB.g rfl) rfl rfl (fun hg => Ev.load1 (agg_run rfl) (gvE hg rfl) (q4 (hcl hg))) <| OPS.gvalN rfl rfl (GB.g rfl) rfl rfl (fun hg => Ev.geq (gvE hg rfl) (gvE hg rfl)) <| Y.g rfl rfl (fun hg => Ev.pickAnd2 (beqT hg) (gvE hg rfl) rfl rfl) <| Y.v (Ev.pickOr rfl rfl rfl) <| OPS.nilq H ?_
      clear H; intro w hbx12 H
      refine WP.cond rfl (fun hc12 => ?_) (fun hc12 => ?_)
      · have hbb : nextS m l ts ns hd q a os b (i : Int) = b := by
          unfold nextS
          by_cases h : (i : Int) ∈ os ∨ walkE m l ts ns hd q (os ++ [(i : Int)]) ≠ 0
          · rw [if_pos h]
          · rw [if_neg h]
            have hno : (i : Int) ∉ os := fun h2 => h (.inl h2)
            simp [hno] at hc12
            obtain ⟨h2, _⟩ := hzz hc12.1
            rw [h2]
            exact if_neg (by omega)
        obtain ⟨b2, hb2, hb3⟩ : ∃ b2, encB b = encB b2 ∧ b2 = nextS m l ts ns hd q a os b (i : Int) := ⟨b, rfl, hbb.symm⟩
        refine WP.exit <| XB.hit <| Y.r <| Y.v (Y.p rfl rfl) <| Y.a rfl <| Y.z ?_
        exact ⟨Y.ag, k2 - 1, by omega, j + 1, b2, by omega, rfl, congrArg I hb2, (by rw [htk]; exact hb3), H.drop Sb.out⟩
      have hno : (i : Int) ∉ os := fun h => by simp [h] at hc12
      have hVn : V = none → cv = 0 := fun h => by
        rcases hOV.form with ⟨_, _, h2, _⟩ | ⟨g, sp, h2, _⟩
        · exact h2
        · rw [h2] at h; cases h
      have hgl2 : os.length ≤ 1000 := by have := hGr.nd.length_le_of_subset (l₂ := left) hGr.sub; omega
      have hob : (os ++ [(i : Int)]).length = os.length + 1 := by simp
      refine Y.k <| Y.qr <| Y.a rfl <| Y.fa rfl rfl <| Y.j H 0 rfl rfl rfl <| OPS.call (d := some 85) rfl rfl rfl (EvC.func (fun_run rfl)) (slClone V os cv w (hOV.ones (R := []) (H.drop (L' := Lv) Sb.out)).1 hgl2 hVn) ?_
      rintro _ w ⟨A2, c2, Lo, rfl, hO2, Hc⟩
      refine ⟨_, rfl, ?_⟩
      replace H := SH.call (L1 := _) (Lv := []) (by rw [List.append_nil]; exact H) Hc
      clear Hc
      simp only [List.cons_append] at H
      refine Y.a rfl <| OPS.buildSlice rfl rfl rfl rfl (bsl_32_1_0 rfl) H ?_
      clear H; intro g87 w H
      refine OPS.append (m := 1) (news := [I i]) (R := ⟨g87, 3, [I i]⟩ :: ⟨g8, 49, [I q, .slice V os.length cv]⟩ :: ⟨g7, 28, [I m, .slice A l.length ca, .slice (some ⟨bt, ot, none⟩) ts.length cb, .slice (some ⟨bn, on, none⟩) ns.length cc, I hd]⟩ :: ⟨g6, 49, [I 0, .slice none 0 0]⟩ :: (Lv ++ Lc)) rfl rfl rfl rfl rfl (sl_run rfl) rfl rfl hO2 rfl (src_own H 0 rfl) rfl (by omega) (by unfold maxLen; omega) H (List.Perm.refl _) ?_
      clear H hO2; intro A2 c2 Lo w hO2 H
      replace hO2 : OwnS A2 c2 (os.length + 1) ((os ++ [(i : Int)]).map I) 3 1 Lo := by simpa using hO2
      simp only [List.cons_append] at H
      refine Y.v (Ev.build (bld_49_0_1 rfl rfl)) <| Y.al H rfl rfl ?_
      clear H; intro g15 w H
      refine Y.ss 0 H rfl (cA rfl) rfl ?_
      clear H; intro w H
      refine Y.z <| Y.q ?_
      have hwk := fun w hz ht hn hr => truckWalkP m hd q A (some ⟨bt, ot, none⟩) (some ⟨bn, on, none⟩) A2 l ts ns (os ++ [(i : Int)]) ca cb cc c2 w hz ht hn hN.c hr (by unfold maxLen; omega) (by rw [hob]; exact hO2.le)
      rw [hob] at hwk
      refine Y.r <| Y.v (Y.o H 3 rfl rfl) <| Y.v (Y.o H 0 rfl rfl) <| OPS.call (d := some 93) rfl rfl rfl (EvC.func (fun_run rfl)) (hwk w (hN.sh H).l (hN.sh H).t (hN.sh H).n (hO2.ones (R := []) (H.drop (L' := Lo) Sb.out)).1) ?_
      rintro _ w ⟨W, cw, Lw, rfl, hOW, Hc⟩
      refine ⟨_, rfl, ?_⟩
      replace H := SH.call (L1 := _) (Lv := []) (by rw [List.append_nil]; exact H) Hc
      clear Hc
      simp only [List.cons_append] at H
      refine Y.v (Ev.mvT rfl) <| Y.v (Ev.extract rfl rfl) <| Y.v (Ev.extract rfl rfl) <| Y.v (Ev.extract rfl rfl) <| Y.v (Ev.asS rfl) <| Y.b rfl <| Y.b rfl <| Y.z <| Y.qr <| Y.a rfl <| Y.v (Ev.eql rfl rfl) <| Y.z ?_
      refine WP.cond rfl (fun hc15 => ?_) (fun hc15 => ?_)
      · have hw0 : walkE m l ts ns hd q (os ++ [(i : Int)]) = 0 := by simpa using hc15
        obtain ⟨b2, hb2, hb3⟩ : ∃ b2, (i : Int) = encB b2 ∧ b2 = nextS m l ts ns hd q a os b (i : Int) := ⟨some i, rfl, by
          unfold nextS
          rw [if_neg (by simp [hno, hw0])]
          cases hbb : b with
          | none => rfl
          | some z =>
            have h1 := (hbz z hbb).1
            rw [hbb] at hc12
            simp [hno] at hc12
            have h2 : encB (some z) = z := rfl
            rw [h2] at hc12
            exact (if_pos (by have := hc12 h1; omega)).symm⟩
        refine Y.r <| Y.a rfl <| Y.b rfl <| Y.z <| Y.r <| Y.v (Y.p rfl rfl) <| Y.a rfl <| Y.z ?_
        exact ⟨Y.ag, k2 - 1, by omega, j + 1, b2, by omega, rfl, congrArg I hb2, (by rw [htk]; exact hb3), H.drop Sb.out⟩
      have hw0 : walkE m l ts ns hd q (os ++ [(i : Int)]) ≠ 0 := by simpa using hc15
      obtain ⟨b2, hb2, hb3⟩ : ∃ b2, encB b = encB b2 ∧ b2 = nextS m l ts ns hd q a os b (i : Int) := ⟨b, rfl, (if_pos (.inr hw0)).symm⟩
      refine Y.k <| Y.r <| Y.v (Y.p rfl rfl) <| Y.a rfl <| Y.z ?_
      exact ⟨Y.ag, k2 - 1, by omega, j + 1, b2, by omega, rfl, congrArg I hb2, (by rw [htk]; exact hb3), H.drop Sb.out⟩
    have hj : j = left.length := by simp at hc10; omega
    rw [hj, List.take_length] at hb
    have hb' : nextN m l ts ns hd q a os left = b := hb.symm
    rw [hb'] at hgr
    refine WP.exit <| XB.hit <| Y.q <| Y.qr <| Y.a rfl <| Y.v (Ev.lss rfl rfl) <| Y.z ?_
    refine WP.cond rfl (fun hc18 => ?_) (fun hc18 => ?_)
    · refine Y.qr <| Y.v (Y.o H 0 rfl rfl) <| Y.ss 2 H rfl (cA rfl) rfl ?_
      clear H; intro w H
      refine Y.z ?_
      refine WP.ret ⟨[_], ⟨(by exact resCellA 2 H rfl (agg_run rfl) (size_run rfl) (by rfl) rfl), trivial⟩, ?_⟩
      have hbn : b = none := by
        cases hbb : b with
        | none => rfl
        | some z =>
          rcases nextN_some _ (hb.symm.trans hbb) with h | ⟨h, _⟩
          · cases h
          · have h1 := (hin z h).1
            rw [hbb] at hc18
            have h2 : ¬ z < 0 := by omega
            exact absurd (of_decide_eq_true hc18) h2
      rw [hbn] at hgr
      exact ⟨os, V, cv, Lv, rfl, hgr, hOV, H.drop Sb.out⟩
    obtain ⟨z, hbz⟩ : ∃ z, b = some z := by
      cases hbb : b with
      | none => rw [hbb] at hc18; exact absurd hc18 (by decide)
      | some z => exact ⟨z, rfl⟩
    subst hbz
    obtain ⟨hG2, hzl, hzo⟩ := hGr.step hb'
    have hiz := hin z hzl
    obtain ⟨p, rfl⟩ := Int.eq_ofNat_of_zero_le hiz.1
    have hpl : p < ns.length := by omega
    obtain ⟨hnp, hnq⟩ := hnode p hpl
    refine Y.k <| Y.qr <| Y.fa rfl rfl <| Y.j H 0 rfl rfl rfl <| Y.a rfl <| OPS.buildSlice rfl rfl rfl rfl (bsl_32_1_0 rfl) H ?_
    clear H; intro g107 w H
    refine OPS.append (m := 1) (news := [I p]) (R := ⟨g107, 3, [I p]⟩ :: ⟨g8, 49, [I q, .slice V os.length cv]⟩ :: ⟨g7, 28, [I m, .slice A l.length ca, .slice (some ⟨bt, ot, none⟩) ts.length cb, .slice C ns.length cc, I hd]⟩ :: ⟨g6, 49, [I 0, .slice none 0 0]⟩ :: Lc) rfl rfl rfl rfl rfl (sl_run rfl) rfl rfl hOV rfl (src_own H 0 rfl) rfl (by omega) (by unfold maxLen; omega) H (by exact permBy fun f => by simp [encB] <;> omega) ?_
    clear H hOV; intro V cv Lv w hOV H
    replace hOV : OwnS V cv (os.length + 1) ((os ++ [(p : Int)]).map I) 3 1 Lv := by simpa using hOV
    simp only [List.cons_append] at H
    refine Y.fa rfl rfl <| Y.ss 1 H rfl (cS rfl) rfl ?_
    clear H; intro w H
    refine Y.z ?_
    obtain ⟨bn, on, rfl, hy⟩ := hN.n p hpl
    obtain ⟨q2, _⟩ := hy
    rw [hnq] at q2
    refine Y.r <| Y.fa rfl rfl <| Y.j H 2 rfl rfl rfl <| Y.a rfl <| Y.v (Y.X rfl rfl rfl rfl rfl) <| Y.fa rfl rfl <| Y.v (Y.c (H.ld0 (by assumption)) rfl) ?_
    refine Y.b rfl <| Y.z ?_
    exact ⟨Y.ag, k, by omega, os ++ [(p : Int)], nodeD ns p, V, cv, Lv, rfl, hnp, (by unfold atN; simp), (by simp; omega), hgr, hG2, (by simpa using hOV), (by
      have := H.drop (L' := ⟨g8, 49, [I q, .slice V (os.length + 1) cv]⟩ :: ⟨g7, 28, [I m, .slice A l.length ca, .slice (some ⟨bt, ot, none⟩) ts.length cb, .slice (some ⟨bn, on, none⟩) ns.length cc, I hd]⟩ :: ⟨g6, 49, [I 0, .slice none 0 0]⟩ :: Lv) Sb.out
      simpa using this)⟩
  refine WP.exit <| XB.hit <| Y.qr <| Y.v (Y.o H 0 rfl rfl) <| Y.ss 2 H rfl (cA rfl) rfl ?_
  clear H; intro w H
  refine Y.z ?_
  refine WP.ret ⟨[_], ⟨(by exact resCellA 2 H rfl (agg_run rfl) (size_run rfl) (by rfl) rfl), trivial⟩, ?_⟩
  have h0 : k = 0 := by have : ¬ os.length < left.length := by simpa using hc4
                        omega
  subst h0
  exact ⟨os, V, cv, Lv, rfl, hgr, hOV, H.drop Sb.out⟩
end Go.Proofs.YtgcokllbophkkaaGreat
