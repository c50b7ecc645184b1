/-
 Walks: the reference's sum, capacity.
-/
import Derived.Test.YtgjfjbphngamgaaB4
import Derived.Test.YtgjfjbphngamgaaNest
import Derived.Test.YtgjfjbphngamgaaFT13
import Derived.Test.YtgjfjbphngamgaaT15
set_option linter.all false
namespace Go.Proofs.Ytgjfjbphngamgaa
open Go Go.W Go.RowKit
def absN (x : Need) : Int := if x.move < -x.move then -x.move else x.move
theorem r44Sum (A : Option Addr) (l : List Need) (cap : Nat) (w0 : World) (hz : RowsAt 2 needCells w0 A l) (hl : l.length ≤ 1000) (hb : ∀ x ∈ l, -32 ≤ x.move ∧ x.move ≤ 32) :
  Calls Try.prog 26 #[.slice A l.length cap] w0 fun e w' => e = .returned (I (l.map absN).sum) ∧ Below w0.heap.size w0 w' := by
 have H := SH.refl w0
 refine Calls.ofWP Try.func26 rfl Try.results26 Try.ntmps26 rfl <| Y.qr <| Y.v (Ev.asI rfl) <| Y.z <| Y.qr <| Y.v (Ev.asI rfl) <| Y.z <| Y.q <| Y.qr <| Y.v (Ev.asI rfl) <| Y.z <| WP.block <| WP.loop [3, 4, 5, 6, 7, 8, 9, 10, 11, 12, 13, 14, 15, 16, 17, 18, 19, 20, 21, 22, 23, 24] (fun k e w' => ∃ (j : Nat) (s : Int), j + k = l.length ∧ e 4 = I j ∧ e 3 = I s ∧ s = ((l.take j).map absN).sum ∧ (0 ≤ s ∧ s ≤ 32 * (j : Int)) ∧ SH w0 [] w' []) (l.length) (⟨0, 0, by omega, rfl, rfl, rfl, by omega, H⟩) ?_
 clear H
 rintro k u w ⟨j, s, hk, h4, h3, hs, hsb, H⟩
 refine WP.know (t := 4) h4 (WP.know (t := 3) h3 ?_)
 refine Y.q <| Y.qr <| Y.v (Y.m rfl) <| Y.v (Ev.mvS rfl) <| Y.v (Y.n rfl) <| Y.v (Ev.lss rfl rfl) <| Y.z ?_
 refine WP.cond rfl (fun hc3 => ?_) (fun hc3 => ?_)
 ·have hlt : j < l.length := by simpa using hc3
  obtain ⟨b, o, rfl, hc⟩ := hz j hlt
  have hci : w0.cell? ⟨b, o + j * 2 + 1, none⟩ = some (I l[j].move) := hc.2.1
  have hxb := hb l[j] (List.getElem_mem hlt)
  have hst : ((l.take (j + 1)).map absN).sum = s + absN l[j] := by rw [List.take_succ_eq_append_getElem hlt, List.map_append, List.sum_append, ← hs]; simp
  unfold absN at hst
  refine Y.k <| Y.q <| WP.block <| WP.rstill mixed (by kernel_rfl) H ?_
  clear H; intro w hbw5 H
  refine Y.v (Y.m rfl) <| Y.v (Ev.mvS rfl) <| Y.v (Y.m rfl) <| Y.v (Y.X rfl rfl rfl rfl rfl) <| Y.v (Y.f rfl rfl) <| Y.v (Y.c (H.ld0 (by assumption)) rfl) ?_
  refine Y.v (Ev.mvS rfl) <| Y.v (Y.m rfl) <| Y.v (Y.X rfl rfl rfl rfl rfl) <| Y.v (Y.f rfl rfl) <| Y.v (Y.c (H.ld0 (by assumption)) rfl) ?_
  refine Y.v (Ev.neg rfl (by unfold fits; omega)) <| Y.v (Ev.max rfl rfl) <| Y.v (Y.p rfl rfl) <| Y.v (Ev.asI rfl) <| OPS.nil_s <| Y.r <| Y.v (Y.m rfl) <| Y.v (Y.p rfl rfl) <| Y.v (Ev.asI rfl) <| Y.z ?_
  refine ⟨(by repeat (first | exact Agree.refl _ _ | exact Agree.mix _ _ _ | refine Agree.upd rfl ?_ | refine Agree.mix2 rfl ?_)), k - 1, by omega, j + 1, _, by omega, rfl, rfl, hst.symm, ?_, H⟩
  split <;> omega
 refine WP.exit <| XB.hit <| Y.qr <| Y.v (Y.m rfl) <| Y.v (Ev.asI rfl) <| Y.z ?_
 refine WP.ret ⟨_, rfl, ?_⟩
 have hj : j = l.length := by simp at hc3; omega
 subst hj
 rw [List.take_length] at hs
 exact ⟨by rw [hs]; rfl, H.below⟩
theorem sum_col {ns : List Need} : ((colN ns).map absN).sum = (movC ns).sum := by
 unfold movC
 congr 1
 refine List.map_congr_left fun x hx => ?_
 have := (List.mem_filter.1 hx).2
 simp at this
 unfold absN; split <;> omega
theorem sum_bri {ns : List Need} : ((briN ns).map absN).sum = (movD ns).sum := by
 unfold movD
 congr 1
 refine List.map_congr_left fun x hx => ?_
 have := (List.mem_filter.1 hx).2
 simp at this
 unfold absN; split <;> omega
theorem r44Capacity (n hd : Int) (A B C : Option Addr) (ll nl : Nat) (ts : List Truck) (ca cb cc : Nat) (w0 : World) (ht : RowsAt 4 truckCells w0 B ts) (htl : ts.length ≤ 1000) (hb : ∀ t ∈ ts, 0 ≤ t.cap ∧ t.cap ≤ 32) :
  Calls Try.prog 25 #[.agg #[I n, .slice A ll ca, .slice B ts.length cb, .slice C nl cc, I hd]] w0 fun e w' => e = .returned (I (capL ts)) ∧ Below w0.heap.size w0 w' := by
 have H := SH.refl w0
 refine Calls.ofWP Try.func25 rfl Try.results25 Try.ntmps25 rfl <| Y.qr <| Y.bx (cA rfl) H ?_
 clear H; intro g1 w H
 refine Y.v (Ev.asI rfl) <| Y.z <| Y.qr <| Y.v (Ev.asI rfl) <| Y.z <| Y.q <| Y.qr <| Y.v (Ev.asI rfl) <| Y.z <| WP.block <| WP.loop [3, 4, 5, 6, 7, 8, 9, 10, 11, 12, 13, 14, 15, 16, 17, 18, 19] (fun k e w' => ∃ (j : Nat), j + k = ts.length ∧ e 4 = I j ∧ e 3 = I (capL (ts.take j)) ∧ SH w0 [] w' [⟨g1, 28, [I n, .slice A ll ca, .slice B ts.length cb, .slice C nl cc, I hd]⟩]) (ts.length) (⟨0, by omega, rfl, rfl, H⟩) ?_
 clear H
 rintro k u w ⟨j, hk, h4, h3, H⟩
 refine WP.know (t := 4) h4 (WP.know (t := 3) h3 ?_)
 refine Y.q <| Y.qr <| Y.v (Y.m rfl) <| Y.v (Y.f rfl rfl) <| Y.v (Y.l H 0 rfl rfl rfl) <| Y.v (Y.n rfl) <| Y.v (Ev.lss rfl rfl) <| Y.z ?_
 refine WP.cond rfl (fun hc3 => ?_) (fun hc3 => ?_)
 ·have hlt : j < ts.length := by simpa using hc3
  obtain ⟨b, o, rfl, hc⟩ := ht j hlt
  have hci : w0.cell? ⟨b, o + j * 4 + 1, none⟩ = some (I ts[j].cap) := hc.2.1
  have hct := capL_take hlt
  refine Y.k <| Y.q <| WP.block <| Y.r <| Y.v (Y.m rfl) <| Y.v (Y.f rfl rfl) <| Y.v (Y.l H 0 rfl rfl rfl) <| Y.v (Y.m rfl) <| Y.v (Y.X rfl rfl rfl rfl rfl) <| Y.v (Y.f rfl rfl) <| Y.v (Y.c (H.ld0 (by assumption)) rfl) ?_
  refine Y.v (Ev.max rfl rfl) <| Y.v (Ev.asI rfl) <| Y.z <| Y.r <| Y.v (Y.m rfl) <| Y.v (Y.p rfl rfl) <| Y.v (Ev.asI rfl) <| Y.z ?_
  exact ⟨(by repeat (first | exact Agree.refl _ _ | exact Agree.mix _ _ _ | refine Agree.upd rfl ?_ | refine Agree.mix2 rfl ?_)), k - 1, by omega, j + 1, by omega, rfl, by rw [hct]; rfl, H⟩
 refine WP.exit <| XB.hit <| Y.qr <| Y.v (Y.m rfl) <| Y.v (Ev.asI rfl) <| Y.z ?_
 refine WP.ret ⟨_, rfl, ?_⟩
 have hj : j = ts.length := by simp at hc3; omega
 subst hj
 rw [List.take_length]
 exact ⟨rfl, H.below⟩
end Go.Proofs.Ytgjfjbphngamgaa

/-
 Walk: the reference's network of a night.
-/
set_option linter.all false
namespace Go.Proofs.Ytgjfjbphngamgaa
open Go Go.W Go.RowKit
theorem r44Col (n hd : Int) (A B C : Option Addr) (ll tl : Nat) (ns : List Need) (ca cb cc : Nat) (w0 : World) (hn : RowsAt 2 needCells w0 C ns) (hnl : ns.length ≤ 1000) :
  Calls Try.prog 23 #[.agg #[I n, .slice A ll ca, .slice B tl cb, .slice C ns.length cc, I hd], .bool true] w0 fun e w' => ∃ (S : Option Addr) (k : Nat) (L : List Blk), e = .returned (.slice S (colN ns).length k) ∧ OwnS S k (colN ns).length ((colN ns).flatMap needCells) 48 2 L ∧ SH w0 [] w' L := r44Side n hd A B C ll tl ns true ca cb cc w0 hn hnl
theorem r44Bri (n hd : Int) (A B C : Option Addr) (ll tl : Nat) (ns : List Need) (ca cb cc : Nat) (w0 : World) (hn : RowsAt 2 needCells w0 C ns) (hnl : ns.length ≤ 1000) :
  Calls Try.prog 23 #[.agg #[I n, .slice A ll ca, .slice B tl cb, .slice C ns.length cc, I hd], .bool false] w0 fun e w' => ∃ (S : Option Addr) (k : Nat) (L : List Blk), e = .returned (.slice S (briN ns).length k) ∧ OwnS S k (briN ns).length ((briN ns).flatMap needCells) 48 2 L ∧ SH w0 [] w' L := r44Side n hd A B C ll tl ns false ca cb cc w0 hn hnl
theorem OwnS.needs {S : Option Addr} {k : Nat} {l : List Need} {Lo R : List Blk} {w0 w : World} {X : List Nat} (h : OwnS S k l.length (l.flatMap needCells) 48 2 Lo) (H : SH w0 X w (R ++ Lo)) : RowsAt 2 needCells w S l := (h.rows (enc := needCells) (fun _ => rfl) (by decide) H).1
/-- the network of the reference -/
def netR (C D : List Int) (tm : List (List Int)) : List Flo.Arc := Flo.brArcs 1 (2 + C.length) D ++ Flo.colArcs (2 + C.length) 2 C tm
theorem timL_len (m : Nat) (l : List Edg) (ns : List Need) : (timL m l ns).length = (colN ns).length := by simp [timL]
theorem timL_row {m : Nat} {l : List Edg} {ns : List Need} {j : Nat} (h : j < (timL m l ns).length) : (timL m l ns)[j] = (briN ns).map fun y => roadT m l ((colN ns)[j]'(by rw [timL_len] at h; exact h)).node.toNat y.node.toNat := by simp [timL]
theorem nwR {a b c d : Blk} {LB Lo : List Blk} : (a :: (([b, c, d] : List Blk) ++ (LB ++ Lo))).Perm (([a, b, c, d] ++ LB) ++ Lo) := perm_by fun f => by simp <;> omega
theorem nwT {b c d : Blk} {LB Lo LT : List Blk} : ((([b, c, d] : List Blk) ++ (LB ++ Lo)) ++ LT).Perm ([b, c, d] ++ ((LB ++ LT) ++ Lo)) := perm_by fun f => by simp <;> omega
theorem nwS {b c d : Blk} {LB Lo LT : List Blk} : (([b, c, d] : List Blk) ++ (LB ++ Lo)).Sublist ([b, c, d] ++ ((LB ++ LT) ++ Lo)) := List.Sublist.append (List.Sublist.refl _) (List.Sublist.append (List.sublist_append_left _ _) (List.Sublist.refl _))
theorem subA {L1 LB Lo : List Blk} : LB.Sublist (L1 ++ (LB ++ Lo)) := (List.sublist_append_left _ _).trans (List.sublist_append_right _ _)
theorem subB {L1 LB LT Lo : List Blk} : LB.Sublist (L1 ++ ((LB ++ LT) ++ Lo)) := (List.sublist_append_left _ _).trans subA
set_option maxRecDepth 20000 in
set_option maxHeartbeats 4000000 in
theorem r44Network (m : Nat) (hd : Int) (A B C : Option Addr) (l : List Edg) (ts : List Truck) (ns : List Need) (ca cb cc : Nat) (w0 : World) (hN : NightAt w0 A B C l ts ns cc) (hK : NightOk m l ts ns hd) :
  Calls Try.prog 28 #[.agg #[I m, .slice A l.length ca, .slice B ts.length cb, .slice C ns.length cc, I hd]] w0 fun e w' => ∃ (A : Option Addr) (cap : Nat) (L : List Blk), e = .returned (.agg #[I ((movC ns).length + (movD ns).length + 2 : Nat), .slice A (netR (movC ns) (movD ns) (timL m l ns)).length cap]) ∧ Reads L (fun w => Flo.ArcsAt w A (netR (movC ns) (movD ns) (timL m l ns))) ∧ SH w0 [] w' L := by
 have H := SH.refl w0
 have hnl := hK.nl
 have hl1 : (colN ns).length ≤ ns.length := List.length_filter_le _ _
 have hl2 : (briN ns).length ≤ ns.length := List.length_filter_le _ _
 have hCl : (movC ns).length = (colN ns).length := by simp [movC]
 have hDl : (movD ns).length = (briN ns).length := by simp [movD]
 have htl := timL_len m l ns
 have hX := trans_ok hK
 obtain ⟨N, hNe⟩ : ∃ N : Int, N = 2 + (colN ns).length + (briN ns).length := ⟨_, rfl⟩
 obtain ⟨CC, hCC⟩ : ∃ CC, CC = movC ns := ⟨_, rfl⟩
 obtain ⟨DD, hDD⟩ : ∃ DD, DD = movD ns := ⟨_, rfl⟩
 obtain ⟨tm, htm⟩ : ∃ tm, tm = timL m l ns := ⟨_, rfl⟩
 obtain ⟨cs, hcs⟩ : ∃ cs, cs = colN ns := ⟨_, rfl⟩
 obtain ⟨bs, hbs⟩ : ∃ bs, bs = briN ns := ⟨_, rfl⟩
 have hcsl : cs.length = (colN ns).length := by rw [hcs]
 have hbsl : bs.length = (briN ns).length := by rw [hbs]
 have hCCl : CC.length = cs.length := by rw [hCC, hcs, hCl]
 have hDDl : DD.length = bs.length := by rw [hDD, hbs, hDl]
 have html : tm.length = cs.length := by rw [htm, hcs, htl]
 have hcm : ∀ x ∈ cs, (0 ≤ x.node ∧ x.node < m) ∧ -32 ≤ x.move ∧ x.move ≤ 32 := fun x hx => by
  rw [hcs] at hx
  have := hK.nd x (List.mem_filter.1 hx).1
  exact ⟨this.1, this.2.2⟩
 have hbm : ∀ x ∈ bs, (0 ≤ x.node ∧ x.node < m) ∧ -32 ≤ x.move ∧ x.move ≤ 32 := fun x hx => by
  rw [hbs] at hx
  have := hK.nd x (List.mem_filter.1 hx).1
  exact ⟨this.1, this.2.2⟩
 have hrows : ∀ j (h : j < tm.length) (h2 : j < cs.length), tm[j] = bs.map fun y => roadT m l cs[j].node.toNat y.node.toNat := fun j h h2 => by
  subst htm hcs hbs; exact timL_row h
 have hrlen : ∀ r ∈ tm, r.length ≤ 16 := fun r hr => by
  obtain ⟨j, hj, rfl⟩ := List.mem_iff_getElem.1 hr
  rw [hrows j hj (by rw [hcs, ← htl, ← htm]; exact hj)]; simp; rw [hbs]; omega
 refine Calls.ofWPc Try.func28 rfl Try.results28 Try.ntmps28 rfl <| Y.qr <| Y.bx (cA rfl) H ?_
 clear H; intro g1 w H
 refine Y.al H rfl rfl ?_
 clear H; intro g2 w H
 refine Y.z <| Y.q ?_
 refine WP.rheldC [3, 4, 12, 13, 14, 15] (fun u w' => ∃ (Sc Sb : Option Addr) (kc kb : Nat) (Lc Lb : List Blk), u 3 = .slice Sc cs.length kc ∧ u 4 = .slice Sb bs.length kb ∧ OwnS Sc kc cs.length (cs.flatMap needCells) 48 2 Lc ∧ OwnS Sb kb bs.length (bs.flatMap needCells) 48 2 Lb ∧ SH w0 [] w' ([⟨g2, 76, [I 0, .slice none 0 0]⟩, ⟨g1, 28, [I m, .slice A l.length ca, .slice B ts.length cb, .slice C ns.length cc, I hd]⟩] ++ (Lc ++ Lb))) mixed H ?_ ?_
 ·clear H; intro w hbw1 H
  refine Y.t 0 H rfl rfl (fun w H => Y.o H 1 rfl rfl) <| Y.t 2 H rfl rfl (fun w H => Y.o H 1 rfl rfl) ?_
  refine Y.A [1] rfl ⟨⟨_, rfl, ?_⟩, trivial⟩
  refine OPS.call (d := some 13) rfl rfl rfl (EvC.func (fun_run rfl)) (by have h := r44Col m hd A B C l.length ts.length ns ca cb cc _ (hN.n.sh H) (by omega); rw [← hcs] at h; exact h) ?_
  rintro _ w ⟨Sc, kc, Lc, rfl, hOc, Hc⟩
  refine ⟨_, rfl, ?_⟩
  have Hf := SH.call (Lv := []) (by rw [List.append_nil]; exact H) Hc
  clear H Hc
  have H := Hf.drop (List.sublist_append_left _ _)
  refine Y.z <| ⟨(H), ?_⟩
  refine Y.A [3] rfl ⟨⟨_, rfl, ?_⟩, trivial⟩
  refine OPS.call (d := some 15) rfl rfl rfl (EvC.func (fun_run rfl)) (by have h := r44Bri m hd A B C l.length ts.length ns ca cb cc _ (hN.n.sh H) (by omega); rw [← hbs] at h; exact h) ?_
  rintro _ w ⟨Sb, kb, Lb, rfl, hOb, Hc⟩
  refine ⟨_, rfl, ?_⟩
  replace Hf := SH.call (Lv := []) (by rw [List.append_nil]; exact Hf) Hc
  clear H Hc
  rw [List.append_assoc] at Hf
  have H := Hf.drop (List.sublist_append_left _ _)
  refine Y.z <| ⟨(H), ?_⟩
  refine Y.t 4 H rfl rfl (fun w H => Ev.asS rfl) <| Y.t 5 H rfl rfl (fun w H => Ev.asS rfl) <| OPH.done (by kernel_rfl) ?_
  exact ⟨(by repeat (first | exact Agree.refl _ _ | exact Agree.mix _ _ _ | refine Agree.upd rfl ?_ | refine Agree.mix2 rfl ?_)), Sc, Sb, kc, kb, Lc, Lb, rfl, rfl, hOc, hOb, Hf⟩
 clear H
 rintro u w ⟨Sc, Sb, kc, kb, Lc, Lb, h3, h4, hOc, hOb, H⟩
 refine WP.know (t := 3) h3 (WP.know (t := 4) h4 ?_)
 obtain ⟨LB, hLB⟩ : ∃ LB, LB = Lc ++ Lb := ⟨_, rfl⟩
 have hrC : Reads LB fun w => RowsAt 2 needCells w Sc cs := fun w0 S w H => OwnS.needs (R := Lb) hOc (H.perm (by rw [hLB]; exact List.perm_append_comm))
 have hrB : Reads LB fun w => RowsAt 2 needCells w Sb bs := fun w0 S w H => OwnS.needs (R := Lc) hOb (by rw [← hLB]; exact H)
 rw [← hLB] at H
 clear hOc hOb
 refine Y.qr <| Y.v (Ev.mvS rfl) <| Y.v (Y.n rfl) <| Y.v (Y.p rfl rfl) <| Y.v (Ev.mvS rfl) <| Y.v (Y.n rfl) <| Y.v (Y.p rfl rfl) <| Y.v (Ev.build (bld_76_0 rfl)) <| Y.al H rfl rfl ?_
 clear H; intro g5 w H
 refine Y.st 0 H rfl (cA rfl) rfl ?_
 clear H; intro w H; try simp only [List.set_cons_zero, List.set_cons_succ, putL, Nat.zero_add] at H
 refine Y.z ?_
 have hNe2 : N = 2 + (cs.length : Int) + bs.length := by rw [hNe, hcs, hbs]
 rw [← hNe2] at H
 replace H : SH w0 [] w ([⟨g5, 76, netL N none 0 0⟩, ⟨g2, 76, [I 0, .slice none 0 0]⟩, ⟨g1, 28, [I m, .slice A l.length ca, .slice B ts.length cb, .slice C ns.length cc, I hd]⟩] ++ (LB ++ [])) := by rw [List.append_nil]; exact H
 refine Y.q <| Y.qr <| Y.v (Ev.asI rfl) <| Y.z <| WP.block <| WP.loop [6, 23, 24, 25, 26, 27, 28, 29, 30, 31, 32, 33, 34, 35, 36, 37, 38, 39, 40, 41, 42, 43, 44, 45] (fun k e w' => ∃ (j : Nat) (A1 : Option Addr) (c1 : Nat) (Lo : List Blk), j + k = bs.length ∧ e 6 = I j ∧ OwnS A1 c1 (Flo.brArcs 1 (2 + cs.length) (DD.take j)).length ((Flo.brArcs 1 (2 + cs.length) (DD.take j)).flatMap Flo.arcCells) 96 4 Lo ∧ SH w0 [] w' ([⟨g5, 76, netL N A1 (Flo.brArcs 1 (2 + cs.length) (DD.take j)).length c1⟩, ⟨g2, 76, [I 0, .slice none 0 0]⟩, ⟨g1, 28, [I m, .slice A l.length ca, .slice B ts.length cb, .slice C ns.length cc, I hd]⟩] ++ (LB ++ Lo))) (bs.length) (⟨0, none, 0, [], by omega, rfl, (by rw [List.take_zero]; exact OwnS.nil), (by rw [List.take_zero]; exact H)⟩) ?_
 clear H
 rintro k u w ⟨j, A1, c1, Lo, hk, h6, hO, H⟩
 refine WP.know (t := 6) h6 ?_
 have hbl2 := Flo.br_len 1 (DD.take j) (2 + cs.length)
 have hbl3 : (DD.take j).length ≤ DD.length := List.length_take_le' _ _
 obtain ⟨l1, hl1⟩ : ∃ l1, l1 = Flo.brArcs 1 (2 + cs.length) (DD.take j) := ⟨_, rfl⟩
 have hl1n : l1.length ≤ 16 := by rw [hl1]; omega
 rw [← hl1] at hO H
 unfold netL at H
 refine Y.q <| Y.qr <| Y.v (Y.m rfl) <| Y.v (Ev.mvS rfl) <| Y.v (Y.n rfl) <| Y.v (Ev.lss rfl rfl) <| Y.z ?_
 refine WP.cond rfl (fun hc4 => ?_) (fun hc4 => ?_)
 ·have hlt : j < bs.length := by simpa using hc4
  have hbt := Flo.br_take (last := 1) (g := 2 + cs.length) (D := DD) (k := j) (by omega)
  have eD : DD[j]'(by omega) = -bs[j].move := by simp [hDD, movD, hbs]
  rw [eD, ← hl1] at hbt
  have hmx := hbm bs[j] (List.getElem_mem hlt)
  refine Y.k <| Y.q <| WP.block ?_
  have E := H
  replace H := H.drop (L' := [⟨g2, 76, [I 0, .slice none 0 0]⟩, ⟨g1, 28, [I m, .slice A l.length ca, .slice B ts.length cb, .slice C ns.length cc, I hd]⟩] ++ LB) (List.Sublist.cons _ (List.Sublist.append (List.Sublist.refl [_, _]) (List.sublist_append_left _ _)))
  obtain ⟨b, o, rfl, _⟩ := hrB.at H (List.sublist_append_right _ _) j hlt
  have hcw : ∀ w, SH w0 [] w ([⟨g2, 76, [I 0, .slice none 0 0]⟩, ⟨g1, 28, [I m, .slice A l.length ca, .slice B ts.length cb, .slice C ns.length cc, I hd]⟩] ++ LB) → w.cell? ⟨b, o + j * 2 + 1, none⟩ = some (I bs[j].move) := fun w H => by
   obtain ⟨_, _, e, hc⟩ := hrB.at H (List.sublist_append_right _ _) j hlt
   cases e; exact hc.2.1
  refine WP.rheldC [29, 30, 31, 32, 33, 34, 35, 36, 37, 38, 39, 40, 41, 42, 43, 44, 45] (fun _ w' => ∃ (A1 : Option Addr) (c1 : Nat) (Lo : List Blk), OwnS A1 c1 (l1.length + 1) ((l1 ++ [(⟨2 + cs.length + j, 1, -bs[j].move, 0⟩ : Flo.Arc)]).flatMap Flo.arcCells) 96 4 Lo ∧ SH w0 [] w' ([⟨g5, 76, netL N A1 (l1.length + 1) c1⟩, ⟨g2, 76, [I 0, .slice none 0 0]⟩, ⟨g1, 28, [I m, .slice A l.length ca, .slice B ts.length cb, .slice C ns.length cc, I hd]⟩] ++ (LB ++ Lo))) mixed H ?_ ?_
  ·clear H; intro w hbw6 H
   refine Y.t 0 H rfl rfl (fun w H => Y.f rfl rfl) <| Y.t 2 H rfl rfl (fun w H => Ev.mvS rfl) <| Y.t 3 H rfl rfl (fun w H => Y.n rfl) <| Y.t 4 H rfl rfl (fun w H => Y.p rfl rfl) <| Y.t 5 H rfl rfl (fun w H => Y.m rfl) <| Y.t 6 H rfl rfl (fun w H => Y.p rfl rfl) <| Y.t 7 H rfl rfl (fun w H => Ev.mvS rfl) <| Y.t 8 H rfl rfl (fun w H => Y.m rfl) <| Y.t 9 H rfl rfl (fun w H => Y.X rfl rfl rfl rfl rfl) <| Y.t 10 H rfl rfl (fun w H => Y.f rfl rfl) <| Y.t 11 H rfl rfl (fun w H => Y.c (hcw w H) rfl) <| Y.t 12 H rfl rfl (fun w H => Ev.neg rfl (by unfold fits; omega)) <| Y.t 13 H rfl rfl (fun w H => Ev.build (bld_96_0_1_2 rfl rfl rfl)) ?_
   refine Y.A [1, 14] rfl ⟨⟨_, rfl, ?_⟩, ⟨_, rfl, ?_⟩, trivial⟩
   ·try replace E := E.toBelow hbw6
    refine Y.v (Y.l E 0 rfl rfl rfl) <| Y.z <| ⟨(H), ?_⟩
    refine Y.A [14] rfl ⟨⟨_, rfl, ?_⟩, trivial⟩
    try replace E := E.toBelow hbw6
    refine OPS.buildSlice rfl rfl rfl rfl (bsl_74_1_0 rfl) E ?_
    clear H E; intro g43 w E
    have H := E.drop (L' := [⟨g2, 76, [I 0, .slice none 0 0]⟩, ⟨g1, 28, [I m, .slice A l.length ca, .slice B ts.length cb, .slice C ns.length cc, I hd]⟩] ++ LB) (List.Sublist.cons _ (List.Sublist.cons _ (List.Sublist.append (List.Sublist.refl [_, _]) (List.sublist_append_left _ _))))
    refine Y.z <| ⟨(H), ?_⟩
    refine Y.A [15] rfl ⟨⟨_, rfl, ?_⟩, trivial⟩
    refine OPS.append (m := 1) (news := [I (2 + cs.length + j), I 1, I (-bs[j].move), I 0]) (R := [⟨g43, 96, [I (2 + cs.length + j), I 1, I (-bs[j].move), I 0]⟩, ⟨g5, 76, [I N, .slice A1 l1.length c1]⟩, ⟨g2, 76, [I 0, .slice none 0 0]⟩, ⟨g1, 28, [I m, .slice A l.length ca, .slice B ts.length cb, .slice C ns.length cc, I hd]⟩] ++ LB) rfl rfl rfl rfl rfl (sl_run rfl) rfl rfl hO rfl (src_own E 0 rfl) rfl (by omega) (by unfold maxLen; omega) E nwR ?_
    clear H E hO; intro A2 c2 Lo2 w hO E
    simp only [List.cons_append, List.nil_append, List.append_assoc] at E
    have H := E.drop (L' := [⟨g2, 76, [I 0, .slice none 0 0]⟩, ⟨g1, 28, [I m, .slice A l.length ca, .slice B ts.length cb, .slice C ns.length cc, I hd]⟩] ++ LB) (List.Sublist.cons _ (List.Sublist.cons _ (List.Sublist.append (List.Sublist.refl [_, _]) (List.sublist_append_left _ _))))
    refine Y.z <| ⟨(H), ?_⟩
    refine Y.t 16 H rfl rfl (fun w H => Y.f rfl rfl) ?_
    refine Y.A [17] rfl ⟨⟨_, rfl, ?_⟩, trivial⟩
    refine Y.st 1 E rfl (cS rfl) rfl ?_
    clear H E; intro w E
    simp only [List.set_cons_zero, List.set_cons_succ, List.cons_append, List.nil_append, putL] at E
    have H := E.drop (L' := [⟨g2, 76, [I 0, .slice none 0 0]⟩, ⟨g1, 28, [I m, .slice A l.length ca, .slice B ts.length cb, .slice C ns.length cc, I hd]⟩] ++ LB) (List.Sublist.cons _ (List.Sublist.cons _ (List.Sublist.append (List.Sublist.refl [_, _]) (List.sublist_append_left _ _))))
    refine Y.z <| ⟨(H), ?_⟩
    refine OPH.done (by kernel_rfl) ?_
    exact ⟨(by repeat (first | exact Agree.refl _ _ | exact Agree.mix _ _ _ | refine Agree.upd rfl ?_ | refine Agree.mix2 rfl ?_)), _, _, _, (by rw [List.flatMap_append]; simpa [Flo.arcCells] using hO), E.drop (List.sublist_cons_self _ _)⟩
   ·try replace E := E.toBelow hbw6
    refine OPS.buildSlice rfl rfl rfl rfl (bsl_74_1_0 rfl) E ?_
    clear H E; intro g43 w E
    have H := E.drop (L' := [⟨g2, 76, [I 0, .slice none 0 0]⟩, ⟨g1, 28, [I m, .slice A l.length ca, .slice B ts.length cb, .slice C ns.length cc, I hd]⟩] ++ LB) (List.Sublist.cons _ (List.Sublist.cons _ (List.Sublist.append (List.Sublist.refl [_, _]) (List.sublist_append_left _ _))))
    refine Y.z <| ⟨(H), ?_⟩
    refine Y.A [1] rfl ⟨⟨_, rfl, ?_⟩, trivial⟩
    try replace E := E.toBelow hbw6
    refine Y.v (Y.l E 1 rfl rfl rfl) <| Y.z <| ⟨(H), ?_⟩
    refine Y.A [15] rfl ⟨⟨_, rfl, ?_⟩, trivial⟩
    refine OPS.append (m := 1) (news := [I (2 + cs.length + j), I 1, I (-bs[j].move), I 0]) (R := [⟨g43, 96, [I (2 + cs.length + j), I 1, I (-bs[j].move), I 0]⟩, ⟨g5, 76, [I N, .slice A1 l1.length c1]⟩, ⟨g2, 76, [I 0, .slice none 0 0]⟩, ⟨g1, 28, [I m, .slice A l.length ca, .slice B ts.length cb, .slice C ns.length cc, I hd]⟩] ++ LB) rfl rfl rfl rfl rfl (sl_run rfl) rfl rfl hO rfl (src_own E 0 rfl) rfl (by omega) (by unfold maxLen; omega) E nwR ?_
    clear H E hO; intro A2 c2 Lo2 w hO E
    simp only [List.cons_append, List.nil_append, List.append_assoc] at E
    have H := E.drop (L' := [⟨g2, 76, [I 0, .slice none 0 0]⟩, ⟨g1, 28, [I m, .slice A l.length ca, .slice B ts.length cb, .slice C ns.length cc, I hd]⟩] ++ LB) (List.Sublist.cons _ (List.Sublist.cons _ (List.Sublist.append (List.Sublist.refl [_, _]) (List.sublist_append_left _ _))))
    refine Y.z <| ⟨(H), ?_⟩
    refine Y.t 16 H rfl rfl (fun w H => Y.f rfl rfl) ?_
    refine Y.A [17] rfl ⟨⟨_, rfl, ?_⟩, trivial⟩
    refine Y.st 1 E rfl (cS rfl) rfl ?_
    clear H E; intro w E
    simp only [List.set_cons_zero, List.set_cons_succ, List.cons_append, List.nil_append, putL] at E
    have H := E.drop (L' := [⟨g2, 76, [I 0, .slice none 0 0]⟩, ⟨g1, 28, [I m, .slice A l.length ca, .slice B ts.length cb, .slice C ns.length cc, I hd]⟩] ++ LB) (List.Sublist.cons _ (List.Sublist.cons _ (List.Sublist.append (List.Sublist.refl [_, _]) (List.sublist_append_left _ _))))
    refine Y.z <| ⟨(H), ?_⟩
    refine OPH.done (by kernel_rfl) ?_
    exact ⟨(by repeat (first | exact Agree.refl _ _ | exact Agree.mix _ _ _ | refine Agree.upd rfl ?_ | refine Agree.mix2 rfl ?_)), _, _, _, (by rw [List.flatMap_append]; simpa [Flo.arcCells] using hO), E.drop (List.sublist_cons_self _ _)⟩
  clear H
  rintro u w ⟨A2, c2, Lo2, hO, H⟩
  refine Y.r <| Y.v (Y.m rfl) <| Y.v (Y.p rfl rfl) <| Y.v (Ev.asI rfl) <| Y.z ?_
  have hl2 : (Flo.brArcs 1 (2 + cs.length) (DD.take (j + 1))).length = l1.length + 1 := by rw [hbt]; simp
  exact ⟨(by repeat (first | exact Agree.refl _ _ | exact Agree.mix _ _ _ | refine Agree.upd rfl ?_ | refine Agree.mix2 rfl ?_)), k - 1, by omega, j + 1, A2, c2, Lo2, by omega, rfl, (by rw [hl2, hbt]; exact hO), (by rw [hl2]; exact H)⟩
 have hj : j = bs.length := by simp at hc4; omega
 subst hj
 rw [List.take_of_length_le (show DD.length ≤ bs.length by omega)] at hl1
 refine WP.exit <| XB.hit <| Y.q <| Y.qr <| Y.v (Ev.asI rfl) <| Y.z <| WP.block <| WP.loop [7, 8, 9, 10, 11, 46, 47, 48, 49, 50, 51, 52, 53, 54, 55, 56, 57, 58, 59, 60, 61, 62, 63, 64, 65, 66, 67, 68, 69, 70, 71, 72, 73, 74, 75, 76, 77, 78, 79, 80, 81, 82, 83, 84, 85, 86, 87, 88, 89, 90, 91, 92, 93, 94, 95, 96, 97, 98, 99, 100, 101, 102, 103, 104, 105] (fun k e w' => ∃ (j : Nat) (A1 : Option Addr) (c1 : Nat) (Lo : List Blk), j + k = cs.length ∧ e 7 = I j ∧ OwnS A1 c1 (l1 ++ Flo.colArcs (2 + cs.length) 2 (CC.take j) (tm.take j)).length ((l1 ++ Flo.colArcs (2 + cs.length) 2 (CC.take j) (tm.take j)).flatMap Flo.arcCells) 96 4 Lo ∧ SH w0 [] w' ([⟨g5, 76, netL N A1 (l1 ++ Flo.colArcs (2 + cs.length) 2 (CC.take j) (tm.take j)).length c1⟩, ⟨g2, 76, [I 0, .slice none 0 0]⟩, ⟨g1, 28, [I m, .slice A l.length ca, .slice B ts.length cb, .slice C ns.length cc, I hd]⟩] ++ (LB ++ Lo))) (cs.length) (⟨0, A1, c1, Lo, by omega, rfl, (by rw [List.take_zero]; simpa [Flo.colArcs] using hO), (by rw [List.take_zero]; simpa [Flo.colArcs, netL] using H)⟩) ?_
 clear H hO
 rintro k u w ⟨j, A2, c2, Lo2, hk, h7, hO, H⟩
 refine WP.know (t := 7) h7 ?_
 have hclen : (Flo.colArcs (2 + cs.length) 2 (CC.take j) (tm.take j)).length ≤ 272 := by
  have h1 := Flo.col_len (K := 16) (2 + cs.length) (CC.take j) (tm.take j) 2 (fun r hr => hrlen r (List.mem_of_mem_take hr))
  have h2 : (CC.take j).length ≤ CC.length := List.length_take_le' _ _
  omega
 obtain ⟨l0, hl0⟩ : ∃ l0, l0 = l1 ++ Flo.colArcs (2 + cs.length) 2 (CC.take j) (tm.take j) := ⟨_, rfl⟩
 have hl0n : l0.length ≤ 288 := by rw [hl0, List.length_append]; omega
 rw [← hl0] at hO H
 unfold netL at H
 refine Y.q <| Y.qr <| Y.v (Y.m rfl) <| Y.v (Ev.mvS rfl) <| Y.v (Y.n rfl) <| Y.v (Ev.lss rfl rfl) <| Y.z ?_
 refine WP.cond rfl (fun hc8 => ?_) (fun hc8 => ?_)
 ·have hlt : j < cs.length := by simpa using hc8
  have hct := Flo.col_take (g := 2 + cs.length) (i := 2) (C := CC) (tm := tm) (j := j) (by omega) (by omega)
  have eC : CC[j]'(by omega) = cs[j].move := by simp [hCC, movC, hcs]
  rw [eC, hrows j (by omega) hlt] at hct
  have hmx := hcm cs[j] (List.getElem_mem hlt)
  obtain ⟨nx, hnx⟩ : ∃ nx, nx = cs[j] := ⟨_, rfl⟩
  rw [← hnx] at hct hmx
  obtain ⟨v, hv⟩ := Int.eq_ofNat_of_zero_le hmx.1.1
  have hvm : v < m := by omega
  have hvt : nx.node.toNat = v := by omega
  rw [hvt] at hct
  obtain ⟨rl, hrl⟩ : ∃ rl, rl = bs.map fun y => roadT m l v y.node.toNat := ⟨_, rfl⟩
  have hrll : rl.length = bs.length := by rw [hrl]; simp
  rw [← hrl] at hct
  refine Y.k <| Y.q <| WP.block <| Y.q ?_
  have E := H
  replace H := H.drop (L' := [⟨g2, 76, [I 0, .slice none 0 0]⟩, ⟨g1, 28, [I m, .slice A l.length ca, .slice B ts.length cb, .slice C ns.length cc, I hd]⟩] ++ LB) (List.Sublist.cons _ (List.Sublist.append (List.Sublist.refl [_, _]) (List.sublist_append_left _ _)))
  obtain ⟨b, o, rfl, _⟩ := hrC.at H (List.sublist_append_right _ _) j hlt
  have hcw : ∀ w L, SH w0 [] w L → LB.Sublist L → w.cell? ⟨b, o + j * 2, none⟩ = some (I v) ∧ w.cell? ⟨b, o + j * 2 + 1, none⟩ = some (I nx.move) := fun w L H hs => by
   obtain ⟨_, _, e, hc⟩ := hrC.at H hs j hlt
   cases e; rw [← hnx] at hc; rw [← hv]; exact ⟨hc.1, hc.2.1⟩
  refine WP.rheldC [52, 53, 54, 55, 56, 57, 58, 59, 60, 61, 62, 63, 64] (fun _ w' => ∃ (A1 : Option Addr) (c1 : Nat) (Lo : List Blk), OwnS A1 c1 (l0.length + 1) ((l0 ++ [(⟨0, 2 + j, nx.move, 0⟩ : Flo.Arc)]).flatMap Flo.arcCells) 96 4 Lo ∧ SH w0 [] w' ([⟨g5, 76, netL N A1 (l0.length + 1) c1⟩, ⟨g2, 76, [I 0, .slice none 0 0]⟩, ⟨g1, 28, [I m, .slice A l.length ca, .slice B ts.length cb, .slice C ns.length cc, I hd]⟩] ++ (LB ++ Lo))) mixed H ?_ ?_
  ·clear H; intro w hbw10 H
   refine OPH.take 0 rfl rfl rfl rfl (by kernel_rfl) (by kernel_rfl) (by kernel_rfl) rfl (by exact H) (fun w H => Ev.fieldAddr (fld_run rfl) rfl) ?_
   refine OPH.take 2 rfl rfl rfl rfl (by kernel_rfl) (by kernel_rfl) (by kernel_rfl) rfl (by exact H) (fun w H => Ev.mvI rfl) ?_
   refine OPH.take 3 rfl rfl rfl rfl (by kernel_rfl) (by kernel_rfl) (by kernel_rfl) rfl (by exact H) (fun w H => Ev.add rfl rfl (by unfold fits; omega)) ?_
   refine OPH.take 4 rfl rfl rfl rfl (by kernel_rfl) (by kernel_rfl) (by kernel_rfl) rfl (by exact H) (fun w H => Ev.mvS rfl) ?_
   refine OPH.take 5 rfl rfl rfl rfl (by kernel_rfl) (by kernel_rfl) (by kernel_rfl) rfl (by exact H) (fun w H => Ev.mvI rfl) ?_
   refine OPH.take 6 rfl rfl rfl rfl (by kernel_rfl) (by kernel_rfl) (by kernel_rfl) rfl (by exact H) (fun w H => (by exact Ev.indexAddr (el_run rfl) (size_run rfl) rfl rfl rfl (by omega))) ?_
   refine OPH.take 7 rfl rfl rfl rfl (by kernel_rfl) (by kernel_rfl) (by kernel_rfl) rfl (by exact H) (fun w H => Ev.fieldAddr (fld_run rfl) rfl) ?_
   refine OPH.take 8 rfl rfl rfl rfl (by kernel_rfl) (by kernel_rfl) (by kernel_rfl) rfl (by exact H) (fun w H => Ev.load1 (agg_run rfl) rfl (hcw w _ H (List.sublist_append_right _ _)).2) ?_
   refine OPH.take 9 rfl rfl rfl rfl (by kernel_rfl) (by kernel_rfl) (by kernel_rfl) rfl (by exact H) (fun w H => Ev.build (bld_96_0_1_2 rfl rfl rfl)) ?_
   refine Y.A [1, 10] rfl ⟨⟨_, rfl, ?_⟩, ⟨_, rfl, ?_⟩, trivial⟩
   ·try replace E := E.toBelow hbw10
    refine Y.v (Y.l E 0 rfl rfl rfl) <| Y.z <| ⟨(H), ?_⟩
    refine Y.A [10] rfl ⟨⟨_, rfl, ?_⟩, trivial⟩
    try replace E := E.toBelow hbw10
    refine OPS.buildSlice rfl rfl rfl rfl (bsl_74_1_0 rfl) E ?_
    clear H E; intro g43 w E
    have H := E.drop (L' := [⟨g2, 76, [I 0, .slice none 0 0]⟩, ⟨g1, 28, [I m, .slice A l.length ca, .slice B ts.length cb, .slice C ns.length cc, I hd]⟩] ++ LB) (List.Sublist.cons _ (List.Sublist.cons _ (List.Sublist.append (List.Sublist.refl [_, _]) (List.sublist_append_left _ _))))
    refine Y.z <| ⟨(H), ?_⟩
    refine Y.A [11] rfl ⟨⟨_, rfl, ?_⟩, trivial⟩
    refine OPS.append (m := 1) (news := [I 0, I (2 + j), I nx.move, I 0]) (R := [⟨g43, 96, [I 0, I (2 + j), I nx.move, I 0]⟩, ⟨g5, 76, [I N, .slice A2 l0.length c2]⟩, ⟨g2, 76, [I 0, .slice none 0 0]⟩, ⟨g1, 28, [I m, .slice A l.length ca, .slice B ts.length cb, .slice C ns.length cc, I hd]⟩] ++ LB) rfl rfl rfl rfl rfl (sl_run rfl) rfl rfl hO rfl (src_own E 0 rfl) rfl (by omega) (by unfold maxLen; omega) E nwR ?_
    clear H E hO; intro A2 c2 Lo2 w hO E
    simp only [List.cons_append, List.nil_append, List.append_assoc] at E
    have H := E.drop (L' := [⟨g2, 76, [I 0, .slice none 0 0]⟩, ⟨g1, 28, [I m, .slice A l.length ca, .slice B ts.length cb, .slice C ns.length cc, I hd]⟩] ++ LB) (List.Sublist.cons _ (List.Sublist.cons _ (List.Sublist.append (List.Sublist.refl [_, _]) (List.sublist_append_left _ _))))
    refine Y.z <| ⟨(H), ?_⟩
    refine Y.t 12 H rfl rfl (fun w H => Y.f rfl rfl) ?_
    refine Y.A [13] rfl ⟨⟨_, rfl, ?_⟩, trivial⟩
    refine Y.st 1 E rfl (cS rfl) rfl ?_
    clear H E; intro w E
    simp only [List.set_cons_zero, List.set_cons_succ, List.cons_append, List.nil_append, putL] at E
    have H := E.drop (L' := [⟨g2, 76, [I 0, .slice none 0 0]⟩, ⟨g1, 28, [I m, .slice A l.length ca, .slice B ts.length cb, .slice C ns.length cc, I hd]⟩] ++ LB) (List.Sublist.cons _ (List.Sublist.cons _ (List.Sublist.append (List.Sublist.refl [_, _]) (List.sublist_append_left _ _))))
    refine Y.z <| ⟨(H), ?_⟩
    refine OPH.done (by kernel_rfl) ?_
    exact ⟨(by repeat (first | exact Agree.refl _ _ | exact Agree.mix _ _ _ | refine Agree.upd rfl ?_ | refine Agree.mix2 rfl ?_)), _, _, _, (by rw [List.flatMap_append]; simpa [Flo.arcCells] using hO), E.drop (List.sublist_cons_self _ _)⟩
   ·try replace E := E.toBelow hbw10
    refine OPS.buildSlice rfl rfl rfl rfl (bsl_74_1_0 rfl) E ?_
    clear H E; intro g43 w E
    have H := E.drop (L' := [⟨g2, 76, [I 0, .slice none 0 0]⟩, ⟨g1, 28, [I m, .slice A l.length ca, .slice B ts.length cb, .slice C ns.length cc, I hd]⟩] ++ LB) (List.Sublist.cons _ (List.Sublist.cons _ (List.Sublist.append (List.Sublist.refl [_, _]) (List.sublist_append_left _ _))))
    refine Y.z <| ⟨(H), ?_⟩
    refine Y.A [1] rfl ⟨⟨_, rfl, ?_⟩, trivial⟩
    try replace E := E.toBelow hbw10
    refine Y.v (Y.l E 1 rfl rfl rfl) <| Y.z <| ⟨(H), ?_⟩
    refine Y.A [11] rfl ⟨⟨_, rfl, ?_⟩, trivial⟩
    refine OPS.append (m := 1) (news := [I 0, I (2 + j), I nx.move, I 0]) (R := [⟨g43, 96, [I 0, I (2 + j), I nx.move, I 0]⟩, ⟨g5, 76, [I N, .slice A2 l0.length c2]⟩, ⟨g2, 76, [I 0, .slice none 0 0]⟩, ⟨g1, 28, [I m, .slice A l.length ca, .slice B ts.length cb, .slice C ns.length cc, I hd]⟩] ++ LB) rfl rfl rfl rfl rfl (sl_run rfl) rfl rfl hO rfl (src_own E 0 rfl) rfl (by omega) (by unfold maxLen; omega) E nwR ?_
    clear H E hO; intro A2 c2 Lo2 w hO E
    simp only [List.cons_append, List.nil_append, List.append_assoc] at E
    have H := E.drop (L' := [⟨g2, 76, [I 0, .slice none 0 0]⟩, ⟨g1, 28, [I m, .slice A l.length ca, .slice B ts.length cb, .slice C ns.length cc, I hd]⟩] ++ LB) (List.Sublist.cons _ (List.Sublist.cons _ (List.Sublist.append (List.Sublist.refl [_, _]) (List.sublist_append_left _ _))))
    refine Y.z <| ⟨(H), ?_⟩
    refine Y.t 12 H rfl rfl (fun w H => Y.f rfl rfl) ?_
    refine Y.A [13] rfl ⟨⟨_, rfl, ?_⟩, trivial⟩
    refine Y.st 1 E rfl (cS rfl) rfl ?_
    clear H E; intro w E
    simp only [List.set_cons_zero, List.set_cons_succ, List.cons_append, List.nil_append, putL] at E
    have H := E.drop (L' := [⟨g2, 76, [I 0, .slice none 0 0]⟩, ⟨g1, 28, [I m, .slice A l.length ca, .slice B ts.length cb, .slice C ns.length cc, I hd]⟩] ++ LB) (List.Sublist.cons _ (List.Sublist.cons _ (List.Sublist.append (List.Sublist.refl [_, _]) (List.sublist_append_left _ _))))
    refine Y.z <| ⟨(H), ?_⟩
    refine OPH.done (by kernel_rfl) ?_
    exact ⟨(by repeat (first | exact Agree.refl _ _ | exact Agree.mix _ _ _ | refine Agree.upd rfl ?_ | refine Agree.mix2 rfl ?_)), _, _, _, (by rw [List.flatMap_append]; simpa [Flo.arcCells] using hO), E.drop (List.sublist_cons_self _ _)⟩
  clear H
  rintro u w ⟨A2, c2, Lo2, hO, H⟩
  refine Y.q ?_
  refine WP.rheldC [8, 9, 65, 66, 67, 68, 69, 70, 71, 72, 73, 74, 75] (fun u w' => ∃ (TA : Option Addr) (LT : List Blk), u 8 = .slice TA (timesOf m l v).length (timesOf m l v).length ∧ u 9 = I (timesErr m l v) ∧ OwnL 3 I TA (timesOf m l v) LT ∧ SH w0 [] w' ([⟨g5, 76, netL N A2 (l0.length + 1) c2⟩, ⟨g2, 76, [I 0, .slice none 0 0]⟩, ⟨g1, 28, [I m, .slice A l.length ca, .slice B ts.length cb, .slice C ns.length cc, I hd]⟩] ++ ((LB ++ LT) ++ Lo2))) mixed H ?_ ?_
  ·clear H; intro w hbw11 H
   refine OPH.take 0 rfl rfl rfl rfl (by kernel_rfl) (by kernel_rfl) (by kernel_rfl) rfl (by exact H) (fun w H => Ev.fieldAddr (fld_run rfl) rfl) ?_
   refine OPH.take 1 rfl rfl rfl rfl (by kernel_rfl) (by kernel_rfl) (by kernel_rfl) rfl (by exact H) (fun w H => Ev.loadN [I m, .slice A l.length ca] (agg_run rfl) (size_run rfl) rfl ⟨H.ldL 2 rfl 0 rfl, H.ldL 2 rfl 1 rfl, trivial⟩) ?_
   refine OPH.take 2 rfl rfl rfl rfl (by kernel_rfl) (by kernel_rfl) (by kernel_rfl) rfl (by exact H) (fun w H => Ev.mvS rfl) ?_
   refine OPH.take 3 rfl rfl rfl rfl (by kernel_rfl) (by kernel_rfl) (by kernel_rfl) rfl (by exact H) (fun w H => Ev.mvI rfl) ?_
   refine OPH.take 4 rfl rfl rfl rfl (by kernel_rfl) (by kernel_rfl) (by kernel_rfl) rfl (by exact H) (fun w H => (by exact Ev.indexAddr (el_run rfl) (size_run rfl) rfl rfl rfl (by omega))) ?_
   refine OPH.take 5 rfl rfl rfl rfl (by kernel_rfl) (by kernel_rfl) (by kernel_rfl) rfl (by exact H) (fun w H => Ev.fieldAddr (fld_run rfl) rfl) ?_
   refine OPH.take 6 rfl rfl rfl rfl (by kernel_rfl) (by kernel_rfl) (by kernel_rfl) rfl (by exact H) (fun w H => Ev.load1 (agg_run rfl) rfl (hcw w _ H subA).1) ?_
   refine Y.A [7] rfl ⟨⟨_, rfl, ?_⟩, trivial⟩
   refine OPS.call (d := some 73) rfl rfl rfl (EvC.func (fun_run rfl)) (r8Times m v A l ca _ (hN.l.sh H)) ?_
   rintro _ w ⟨TA, LT, rfl, hOL, Hc⟩
   refine ⟨_, rfl, ?_⟩
   have Hf := SH.call (Lv := []) (by rw [List.append_nil]; exact H) Hc
   clear H Hc
   have H := Hf.drop (List.sublist_append_left _ _)
   refine Y.z <| ⟨(H), ?_⟩
   refine Y.t 8 H rfl rfl (fun w H => Ev.mvT rfl) <| Y.t 9 H rfl rfl (fun w H => Ev.extract rfl rfl) <| Y.t 10 H rfl rfl (fun w H => Ev.extract rfl rfl) <| Y.t 11 H rfl rfl (fun w H => Ev.asS rfl) <| Y.t 12 H rfl rfl (fun w H => Ev.asI rfl) <| OPH.done (by kernel_rfl) ?_
   exact ⟨(by repeat (first | exact Agree.refl _ _ | exact Agree.mix _ _ _ | refine Agree.upd rfl ?_ | refine Agree.mix2 rfl ?_)), TA, LT, rfl, rfl, hOL, Hf.perm nwT⟩
  clear H
  rintro u w ⟨TA, LT, h8, h9, hOL, H⟩
  refine WP.know (t := 8) h8 (WP.know (t := 9) h9 ?_)
  obtain ⟨hte, htl'⟩ := timesOf_ok hK.road hvm
  have htn := timesL_length m l v
  rw [htl'] at hOL
  have hvl : (timesOf m l v).length = m := by rw [htl', htn]
  refine Y.qr <| Y.v (Ev.asI rfl) <| Y.z <| WP.block <| WP.loop [10, 11, 76, 77, 78, 79, 80, 81, 82, 83, 84, 85, 86, 87, 88, 89, 90, 91, 92, 93, 94, 95, 96, 97, 98, 99, 100, 101, 102, 103, 104, 105] (fun k e w' => ∃ (q : Nat) (A1 : Option Addr) (c1 : Nat) (Lo : List Blk), q + k = bs.length ∧ e 10 = I q ∧ OwnS A1 c1 (l0 ++ ((⟨0, 2 + j, nx.move, 0⟩ : Flo.Arc) :: Flo.rowArcs (2 + j) (2 + cs.length) (rl.take q))).length ((l0 ++ ((⟨0, 2 + j, nx.move, 0⟩ : Flo.Arc) :: Flo.rowArcs (2 + j) (2 + cs.length) (rl.take q))).flatMap Flo.arcCells) 96 4 Lo ∧ SH w0 [] w' ([⟨g5, 76, netL N A1 (l0 ++ ((⟨0, 2 + j, nx.move, 0⟩ : Flo.Arc) :: Flo.rowArcs (2 + j) (2 + cs.length) (rl.take q))).length c1⟩, ⟨g2, 76, [I 0, .slice none 0 0]⟩, ⟨g1, 28, [I m, .slice A l.length ca, .slice B ts.length cb, .slice C ns.length cc, I hd]⟩] ++ ((LB ++ LT) ++ Lo))) (bs.length) (⟨0, A2, c2, Lo2, by omega, rfl, (by rw [List.take_zero]; simpa [Flo.rowArcs] using hO), (by rw [List.take_zero]; simpa [Flo.rowArcs] using H)⟩) ?_
  clear H hO
  rintro k2 u2 w ⟨q, A3, c3, Lo3, hk2, h10, hO3, H⟩
  refine WP.know (t := 10) h10 ?_
  have hrl2 := Flo.row_len (2 + j) (rl.take q) (2 + cs.length)
  have hrl3 : (rl.take q).length ≤ rl.length := List.length_take_le' _ _
  obtain ⟨l2, hl2⟩ : ∃ l2, l2 = l0 ++ ((⟨0, 2 + j, nx.move, 0⟩ : Flo.Arc) :: Flo.rowArcs (2 + j) (2 + cs.length) (rl.take q)) := ⟨_, rfl⟩
  have hl2n : l2.length ≤ 320 := by rw [hl2, List.length_append, List.length_cons]; omega
  rw [← hl2] at hO3 H
  unfold netL at H
  refine Y.q <| Y.qr <| Y.v (Y.m rfl) <| Y.v (Ev.mvS rfl) <| Y.v (Y.n rfl) <| Y.v (Ev.lss rfl rfl) <| Y.z ?_
  refine WP.cond rfl (fun hc13 => ?_) (fun hc13 => ?_)
  ·have hlt2 : q < bs.length := by simpa using hc13
   have hbx := hbm bs[q] (List.getElem_mem hlt2)
   have hrt := Flo.row_take (f := 2 + j) (g := 2 + cs.length) (r := rl) (k := q) (by omega)
   have hre : rl[q]'(by omega) = roadT m l v bs[q].node.toNat := by simp [hrl]
   rw [hre] at hrt
   obtain ⟨y, hy⟩ := Int.eq_ofNat_of_zero_le hbx.1.1
   have hym : y < m := by omega
   have hyt : bs[q].node.toNat = y := by omega
   rw [hyt] at hrt
   have hxb := roadT_bd hK.road hvm hym
   have hxt : (timesL m l v)[y]'(by omega) = roadT m l v y := timesL_at (by omega)
   obtain ⟨x, hx⟩ : ∃ x, x = roadT m l v y := ⟨_, rfl⟩
   rw [← hx] at hrt hxb hxt
   obtain ⟨b2, o2, rfl, hc2⟩ := hrB.at H subB q hlt2
   have hci : w.cell? ⟨b2, o2 + q * 2, none⟩ = some (I y) := by have := hc2.1; rw [hy] at this; exact this
   have hx0 := hOL.rd H (fun b hb => List.mem_append_right _ (List.mem_append_left _ (List.mem_append_right _ hb)))
   obtain ⟨bT, oT, rfl, hxv⟩ := hx0 y (by omega)
   rw [hxt] at hxv
   have hyl : y < (timesOf m l v).length := by omega
   refine Y.k <| Y.q <| WP.block <| Y.qr <| Y.v (Ev.mvS rfl) <| Y.v (Ev.mvS rfl) <| Y.v (Y.m rfl) <| Y.v (Y.X rfl rfl rfl rfl rfl) <| Y.v (Y.f rfl rfl) <| Y.v (Y.c (by assumption) rfl) ?_
   refine Y.v (Y.x rfl rfl rfl rfl) <| Y.v (Y.c (by assumption) rfl) ?_
   refine Y.v (Ev.asI rfl) <| Y.z <| Y.qr <| Y.v (Y.m rfl) <| Y.v (Ev.geq rfl rfl) <| Y.z ?_
   refine WP.cond rfl (fun hc16 => ?_) (fun hc16 => ?_)
   ·have hx0 : 0 ≤ x := by simpa using hc16
    rw [if_pos hx0] at hrt
    have hl3 : l0 ++ ((⟨0, 2 + j, nx.move, 0⟩ : Flo.Arc) :: Flo.rowArcs (2 + j) (2 + cs.length) (rl.take (q + 1))) = l2 ++ [(⟨2 + j, 2 + cs.length + q, 65536, x⟩ : Flo.Arc)] := by rw [hl2, hrt]; simp
    refine Y.r <| Y.v (Y.f rfl rfl) <| Y.v (Y.l H 0 rfl rfl rfl) <| Y.v (Y.m rfl) <| Y.v (Y.p rfl rfl) <| Y.v (Ev.mvS rfl) <| Y.v (Y.n rfl) <| Y.v (Y.p rfl rfl) <| Y.v (Y.m rfl) <| Y.v (Y.p rfl rfl) <| Y.v (Y.m rfl) <| Y.v (Ev.build (bld_96_0_1_2_3 rfl rfl rfl rfl)) <| OPS.buildSlice rfl rfl rfl rfl (bsl_74_1_0 rfl) H ?_
    clear H; intro g103 w H
    refine OPS.append (m := 1) (news := [I (2 + j), I (2 + cs.length + q), I 65536, I x]) (R := [⟨g103, 96, [I (2 + j), I (2 + cs.length + q), I 65536, I x]⟩, ⟨g5, 76, [I N, .slice A3 l2.length c3]⟩, ⟨g2, 76, [I 0, .slice none 0 0]⟩, ⟨g1, 28, [I m, .slice A l.length ca, .slice B ts.length cb, .slice C ns.length cc, I hd]⟩] ++ (LB ++ LT)) rfl rfl rfl rfl rfl (sl_run rfl) rfl rfl hO3 rfl (src_own H 0 rfl) rfl (by omega) (by unfold maxLen; omega) H nwR ?_
    clear H hO3; intro A3 c3 Lo3 w hO3 H
    simp only [List.cons_append, List.nil_append, List.append_assoc] at H
    refine Y.v (Y.f rfl rfl) <| Y.st 1 H rfl (cS rfl) rfl ?_
    clear H; intro w H; try simp only [List.set_cons_zero, List.set_cons_succ, putL, Nat.zero_add] at H
    refine Y.z <| Y.r <| Y.v (Y.m rfl) <| Y.v (Y.p rfl rfl) <| Y.v (Ev.asI rfl) <| Y.z ?_
    have hl4 : (l2 ++ [(⟨2 + j, 2 + cs.length + q, 65536, x⟩ : Flo.Arc)]).length = l2.length + 1 := by simp
    exact ⟨(by repeat (first | exact Agree.refl _ _ | exact Agree.mix _ _ _ | refine Agree.upd rfl ?_ | refine Agree.mix2 rfl ?_)), k2 - 1, by omega, q + 1, A3, c3, Lo3, by omega, rfl, (by rw [hl3, hl4, List.flatMap_append]; simpa [Flo.arcCells] using hO3), (by rw [hl3, hl4, List.append_assoc LB]; exact H.drop (List.sublist_cons_self _ _))⟩
   have hx0 : ¬ 0 ≤ x := by simpa using hc16
   rw [if_neg hx0, List.append_nil] at hrt
   have hl3 : l2 = l0 ++ ((⟨0, 2 + j, nx.move, 0⟩ : Flo.Arc) :: Flo.rowArcs (2 + j) (2 + cs.length) (rl.take (q + 1))) := by rw [hl2, hrt]
   refine Y.k <| Y.r <| Y.v (Y.m rfl) <| Y.v (Y.p rfl rfl) <| Y.v (Ev.asI rfl) <| Y.z ?_
   have hl4 : (l2 ++ [(⟨2 + j, 2 + cs.length + q, 65536, x⟩ : Flo.Arc)]).length = l2.length + 1 := by simp
   exact ⟨(by repeat (first | exact Agree.refl _ _ | exact Agree.mix _ _ _ | refine Agree.upd rfl ?_ | refine Agree.mix2 rfl ?_)), k2 - 1, by omega, q + 1, A3, c3, Lo3, by omega, rfl, (by rw [← hl3]; exact hO3), (by rw [← hl3]; exact H)⟩
  refine WP.exit <| XB.hit <| Y.r <| Y.v (Y.m rfl) <| Y.v (Y.p rfl rfl) <| Y.v (Ev.asI rfl) <| Y.z ?_
  have hq : q = bs.length := by simp at hc13; omega
  rw [hq, List.take_of_length_le (show rl.length ≤ bs.length by omega), hl0, List.append_assoc, ← hct] at hl2
  rw [hl2] at hO3 H
  exact ⟨(by repeat (first | exact Agree.refl _ _ | exact Agree.mix _ _ _ | refine Agree.upd rfl ?_ | refine Agree.mix2 rfl ?_)), k - 1, by omega, j + 1, A3, c3, Lo3, by omega, rfl, hO3, H.drop nwS⟩
 have hj : j = cs.length := by simp at hc8; omega
 subst hj
 have hnet : l0 = netR (movC ns) (movD ns) (timL m l ns) := by
  rw [hl0, hl1, List.take_of_length_le (show CC.length ≤ cs.length by omega), List.take_of_length_le (show tm.length ≤ cs.length by omega), ← hCCl, hCC, hDD, htm]; rfl
 have hNf : N = ((movC ns).length + (movD ns).length + 2 : Nat) := by rw [hNe, hCl, hDl]; omega
 rw [hNf] at H
 rw [hnet] at hO H
 simp only [List.cons_append, List.nil_append] at H
 refine WP.exit <| XB.hit <| Y.qr <| Y.v (Y.o H 0 rfl rfl) <| Y.st 1 H rfl (cA rfl) rfl ?_
 clear H; intro w H; try simp only [List.set_cons_zero, List.set_cons_succ, putL, Nat.zero_add] at H
 refine Y.z ?_
 refine WP.ret ⟨[_], ⟨(by exact resCellA 1 H rfl (agg_run rfl) (size_run rfl) (by rfl) rfl), trivial⟩, ?_⟩
 have H2 : SH w0 [] w ([_, _, _] ++ (LB ++ Lo2)) := H
 exact ⟨A2, c2, Lo2, rfl, fun w0 S w H => (hO.rows (enc := Flo.arcCells) (l := netR (movC ns) (movD ns) (timL m l ns)) (fun _ => rfl) (by decide) (R := []) H).1, H2.drop ((List.sublist_append_right _ _).trans (List.sublist_append_right _ _))⟩
end Go.Proofs.Ytgjfjbphngamgaa

/-
 Plain: least ways exist, and rounds of relaxation find them.
-/
set_option linter.all false
namespace Go.Proofs.Ytgjfjbphngamgaa.Flo
open Go Go.W
theorem nvis_ex (x : Nat) (xd : Int) (pots : List Int) (done : List Bool) (a b arc : Nat) (room cost : Int) (fwd : Bool) (s : NSt) : ∃ s', NVis x xd pots done a b arc room cost fwd s s' := by
 unfold NVis
 by_cases h : nVisC x xd pots done s a b cost = true
 ·exact ⟨⟨s.sts.set b ⟨a, arc, room, fwd, true, 0⟩, s.dist.set b (xd + cost + pots.getD a 0 - pots.getD b 0), s.h ++ [⟨b, xd + cost + pots.getD a 0 - pots.getD b 0, s.p⟩], s.p + 1, none, 0, []⟩, by rw [if_pos h]; exact ⟨rfl, rfl, List.Perm.refl _, rfl⟩⟩
 ·exact ⟨s, by rw [if_neg h]; exact ⟨rfl, rfl, rfl, rfl⟩⟩
theorem nvis_len {x : Nat} {xd : Int} {pots : List Int} {done : List Bool} {a b arc : Nat} {room cost : Int} {fwd : Bool} {s s' : NSt} (h : NVis x xd pots done a b arc room cost fwd s s') : s'.h.length ≤ s.h.length + 1 := by
 unfold NVis at h
 split at h
 ·have := h.2.2.1.length_eq; simp at this; omega
 ·rw [h.2.2.1]; omega
theorem nvis_x {x : Nat} {xd : Int} {pots : List Int} {done : List Bool} {a b arc : Nat} {room cost : Int} {fwd : Bool} {s s' : NSt} (h : NVis x xd pots done a b arc room cost fwd s s') (hx : dnB done x = true) (hb : b < s.dist.length) : dAt s'.dist x = dAt s.dist x := by
 unfold NVis at h
 split at h
 ·rename_i hc
  unfold nVisC at hc
  simp only [Bool.and_eq_true, Bool.not_eq_true'] at hc
  have hne : b ≠ x := fun he => by
   have h1 : dnB done b = false := hc.1.2
   rw [he, hx] at h1; cases h1
  rw [h.2.1, dAt_set hb, if_neg hne]
 ·rw [h.2.1]
section
variable {pots : List Int} {l : List Arc} {on : List Int} {n s : Nat}
/-- all arcs visited from x -/
theorem all_visited (hn : NodesOk n l) (hc : ∀ a ∈ l, 0 ≤ a.cost ∧ a.cost ≤ 65536) (ho : OptPot (potF pots) l on) (hlen : on.length = l.length) {x : Nat} {done : List Bool} {rk : Nat → Int} {D : Int} (hx : x < n) (hdx : dnB done x = true) :
  ∀ (j : Nat) (st : NSt), DI (potF pots) l on n s x (fun _ _ => False) st done rk D → D = dAt st.dist x → j ≤ l.length → ∃ st', DI (potF pots) l on n s x (fun i _ => i < j) st' done rk D ∧ D = dAt st'.dist x ∧ st'.h.length ≤ st.h.length + 2 * j
 | 0, st, h, hD, _ => ⟨st, h.pr fun _ _ _ _ _ _ _ q => absurd q (by omega), hD, by omega⟩
 | j + 1, st, h, hD, hj => by
  obtain ⟨s1, h1, hD1, hl1⟩ := all_visited hn hc ho hlen hx hdx j st h hD (by omega)
  have hjl : j < l.length := by omega
  obtain ⟨a, b, ha, hb, hfa, htb, e1, e2⟩ := redge_of (on := on) hn hjl (by omega) (potF pots)
  have hcj := hc l[j] (List.getElem_mem hjl)
  have hw : rc (potF pots) l[j] = l[j].cost + pots.getD a 0 - pots.getD b 0 := by unfold rc; rw [hfa, htb]; simp [potF]
  have m1 : ∃ s2, DI (potF pots) l on n s x (fun i f => i < j ∨ (i = j ∧ f = true)) s2 done rk D ∧ D = dAt s2.dist x ∧ s2.h.length ≤ s1.h.length + 1 := by
   by_cases hlt : on[j] < l[j].cap
   ·obtain ⟨s2, hV⟩ := nvis_ex x (dAt s1.dist x) pots done a b j (l[j].cap - on[j]) l[j].cost true s1
    exact ⟨s2, h1.visit ho (e1 hlt) hx hdx hD1 hb hw (by simp [potF]) (by simp [potF]) hcj.2 hV, by rw [nvis_x hV hdx (by rw [h1.dlen]; exact hb)]; exact hD1, nvis_len hV⟩
   ·exact ⟨s1, h1.pr fun i f u v r w hE hp => by
     rcases hp with hp | ⟨rfl, rfl⟩
     ·exact hp
     ·obtain ⟨_, _, q, _⟩ := hE; exact absurd (q rfl).2.2.2.1 hlt, hD1, by omega⟩
  obtain ⟨s2, h2, hD2, hl2⟩ := m1
  by_cases hlt : 0 < on[j]
  ·obtain ⟨s3, hV⟩ := nvis_ex x (dAt s2.dist x) pots done b a j on[j] (-l[j].cost) false s2
   refine ⟨s3, (h2.visit ho (e2 hlt) hx hdx hD2 ha (by omega) (by simp [potF]) (by simp [potF]) (by omega) hV).pr fun i f u v r w _ hp => ?_, by rw [nvis_x hV hdx (by rw [h2.dlen]; exact ha)]; exact hD2, by have := nvis_len hV; omega⟩
   rcases Nat.lt_succ_iff_lt_or_eq.1 hp with hp | rfl
   ·exact .inl (.inl hp)
   ·cases f with
    | true => exact .inl (.inr ⟨rfl, rfl⟩)
    | false => exact .inr ⟨rfl, rfl⟩
  ·refine ⟨s2, h2.pr fun i f u v r w hE hp => ?_, hD2, by omega⟩
   rcases Nat.lt_succ_iff_lt_or_eq.1 hp with hp | rfl
   ·exact .inl hp
   ·cases f with
    | true => exact .inr ⟨rfl, rfl⟩
    | false => obtain ⟨_, _, _, q⟩ := hE; exact absurd (q rfl).2.2.2.1 hlt
theorem min_entry : ∀ (h : List Ent), h ≠ [] → ∃ y h', (y :: h').Perm h ∧ ∀ z ∈ h, y.dist ≤ z.dist
 | [], hne => absurd rfl hne
 | [y], _ => ⟨y, [], List.Perm.refl _, fun z hz => by simp at hz; subst hz; exact Int.le_refl _⟩
 | x :: y :: t, _ => by
  obtain ⟨z, h', hp, hm⟩ := min_entry (y :: t) (by simp)
  by_cases hxz : x.dist ≤ z.dist
  ·refine ⟨x, y :: t, List.Perm.refl _, fun u hu => ?_⟩
   rcases List.mem_cons.1 hu with rfl | hu
   ·exact Int.le_refl _
   ·have := hm u hu; omega
  ·refine ⟨z, x :: h', (List.Perm.swap x z h').trans (List.Perm.cons x hp), fun u hu => ?_⟩
   rcases List.mem_cons.1 hu with rfl | hu
   ·omega
   ·exact hm u hu
theorem cnt_arith0 {a b k x y z m : Nat} (hl3 : x ≤ y + 2 * m) (hm : m ≤ 512) (h1 : a + 2000 ≤ b) (h2 : y + 1 = z) (hk : b + z ≤ k + 1) : a + x ≤ k := by
 have h4 : x ≤ y + 1024 := by omega
 have h5 : a + 1024 ≤ b := by omega
 omega
theorem cnt_arith {a b k x y z m : Nat} (hl3 : x ≤ y + 2 * m) (hm : m ≤ 512) (h1 : a < b) (h2 : y + 1 = z) (hk : b * 2000 + z ≤ k + 1) : a * 2000 + x ≤ k :=
 cnt_arith0 hl3 hm (by rw [← Nat.succ_mul]; exact Nat.mul_le_mul_right _ h1) h2 hk
theorem near_of (hn : NodesOk n l) (hll : l.length ≤ 512) (hc : ∀ a ∈ l, 0 ≤ a.cost ∧ a.cost ≤ 65536) (ho : OptPot (potF pots) l on) (hlen : on.length = l.length) :
  ∀ (k : Nat) (st : NSt) (done : List Bool) (rk : Nat → Int) (D : Int) (x : Nat), DI (potF pots) l on n s x (fun _ _ => True) st done rk D → openN done * 2000 + st.h.length ≤ k → ∃ sts dist rk, Near (potF pots) l on n s sts dist rk := by
 intro k
 induction k with
 | zero =>
  intro st done rk D x h hk
  exact ⟨_, _, _, h.near (List.length_eq_zero_iff.1 (by omega))⟩
 | succ k ih =>
  intro st done rk D x h hk
  by_cases he : st.h = []
  ·exact ⟨_, _, _, h.near he⟩
  ·obtain ⟨y, h', hp, hm⟩ := min_entry st.h he
   have hl := hp.length_eq
   simp only [List.length_cons] at hl
   obtain ⟨v, hv, hyv, _, _⟩ := h.ent y (hp.subset (List.mem_cons_self ..))
   cases hd : dnB done v with
   | true => exact ih _ _ _ _ _ (h.stale hp hyv hd (A := none) (cap := 0) (Lo := []) (q := 0)) (by show openN done * 2000 + h'.length ≤ k; omega)
   | false =>
    obtain ⟨hyd, h2⟩ := h.fresh hp hm hyv hv hd (A := none) (cap := 0) (Lo := []) (q := 0)
    have hvl : v < done.length := by rw [h.olen]; exact hv
    have ho2 := openN_set done v hvl hd
    obtain ⟨st3, h3, _, hl3⟩ := all_visited hn hc ho hlen hv (by rw [dnB_set hvl, if_pos rfl]) l.length _ h2 hyd (Nat.le_refl _)
    have hl3 : st3.h.length ≤ h'.length + 2 * l.length := hl3
    have hk2 : openN (done.set v true) * 2000 + st3.h.length ≤ k := by
     exact cnt_arith hl3 hll ho2 hl hk
    exact ih st3 (done.set v true) _ _ _ (h3.pr fun i _ _ _ _ _ hE _ => hE.1) hk2
theorem near_exists (hn : NodesOk n l) (hll : l.length ≤ 512) (hc : ∀ a ∈ l, 0 ≤ a.cost ∧ a.cost ≤ 65536) (ho : OptPot (potF pots) l on) (hlen : on.length = l.length) (hs : s < n) (hp0 : pots.getD s 0 = 0) : ∃ sts dist rk, Near (potF pots) l on n s sts dist rk :=
 near_of hn hll hc ho hlen (n * 2000 + 1) _ _ _ _ s (DI.init hs (by show pots.getD (s : Int).toNat 0 ≤ 0; rw [Int.toNat_natCast, hp0]; exact Int.le_refl _) (A := none) (cap := 0) (Lo := []) (q := 0)) (by simp [openN])
/-! ### rounds of relaxation -/
abbrev p0 : Int → Int := fun _ => 0
/-- least ways from s: the nodes K that can be reached, their costs D -/
structure SP (l : List Arc) (on : List Int) (n s : Nat) (K : Nat → Bool) (D : Nat → Int) (rk : Nat → Int) : Prop where
 src : K s = true ∧ D s = 0
 clo : ∀ i fw u v r w, REdge p0 l on i fw u v r w → u < n → v < n → K u = true → K v = true ∧ D v ≤ D u + w
 par : ∀ v, v < n → K v = true → v ≠ s → ∃ u i fw r w, u < n ∧ K u = true ∧ REdge p0 l on i fw u v r w ∧ D v = D u + w ∧ rk u < rk v
 rkb : ∀ v, v < n → K v = true → 0 ≤ rk v ∧ rk v ≤ n
 bd : ∀ v, v < n → K v = true → -65536 * (n : Int) ≤ D v ∧ D v ≤ 65536 * n
theorem REdge.cost {p : Int → Int} {i : Nat} {fw : Bool} {u v : Nat} {r w : Int} (h : REdge p l on i fw u v r w) (q : Int → Int) : REdge q l on i fw u v r (w - p u + p v + q u - q v) := by
 obtain ⟨h1, h2, a, b⟩ := h
 refine ⟨h1, h2, fun hf => ?_, fun hf => ?_⟩
 ·obtain ⟨g1, g2, g3, g4, g5⟩ := a hf
  refine ⟨g1, g2, g3, g4, ?_⟩
  unfold rc at g5 ⊢; rw [g1, g2] at g5 ⊢; omega
 ·obtain ⟨g1, g2, g3, g4, g5⟩ := b hf
  refine ⟨g1, g2, g3, g4, ?_⟩
  unfold rc at g5 ⊢; rw [g1, g2] at g5 ⊢; omega
theorem REdge.toCost {p : Int → Int} {i : Nat} {fw : Bool} {u v : Nat} {r w : Int} (h : REdge p l on i fw u v r w) : REdge p0 l on i fw u v r (w - p u + p v) := by
 have := h.cost p0
 rw [show w - p u + p v + p0 u - p0 v = w - p u + p v by simp [p0]] at this; exact this
theorem REdge.ofCost {p : Int → Int} {i : Nat} {fw : Bool} {u v : Nat} {r w : Int} (h : REdge p0 l on i fw u v r w) : REdge p l on i fw u v r (w + p u - p v) := by
 have := h.cost p
 rw [show w - p0 u + p0 v + p u - p v = w + p u - p v by simp [p0]] at this; exact this
theorem rc_p0 (a : Arc) : rc p0 a = a.cost := by simp [rc, p0]
theorem Near.sp {sts : List Step} {dist : List Int} {rk : Nat → Int} (h : Near (potF pots) l on n s sts dist rk) (hp0 : pots.getD s 0 = 0) (hc : ∀ a ∈ l, 0 ≤ a.cost ∧ a.cost ≤ 65536) : SP l on n s (kn sts) (fun v => dAt dist v + pots.getD v 0) rk := by
 have hpn : ∀ v : Nat, potF pots v = pots.getD v 0 := fun v => by simp [potF]
 have par : ∀ v, v < n → kn sts v = true → v ≠ s → ∃ u i fw r w, u < n ∧ kn sts u = true ∧ REdge p0 l on i fw u v r w ∧ dAt dist v + pots.getD v 0 = dAt dist u + pots.getD u 0 + w ∧ rk u < rk v := fun v hv hk hvs => by
  obtain ⟨u, i, fw, r, w, q1, q2, q3, q4, q5, q6⟩ := h.par v hv hk hvs
  refine ⟨u, i, fw, r, _, q1, q2, q3.toCost, ?_, q6⟩
  rw [hpn, hpn]; omega
 refine ⟨⟨h.src.1, by show dAt dist s + pots.getD s 0 = 0; rw [h.src.2, hp0]; rfl⟩, fun i fw u v r w hE hu hv hk => ?_, par, h.rkb, fun v hv hk => ⟨?_, by have := h.bd v hv hk; rw [hpn] at this; exact this⟩⟩
 ·have hE2 := hE.ofCost (p := potF pots)
  obtain ⟨q1, q2⟩ := h.clo i fw u v r _ hE2 hu hv hk
  rw [hpn, hpn] at q2
  exact ⟨q1, by show dAt dist v + _ ≤ dAt dist u + _ + w; omega⟩
 · -- from below: along the tree
  have key : ∀ (m : Nat) (v : Nat), v < n → kn sts v = true → rk v ≤ m → -65536 * (m : Int) ≤ dAt dist v + pots.getD v 0 := by
   intro m
   induction m with
   | zero =>
    intro v hv hk hm
    by_cases hvs : v = s
    ·subst hvs; rw [h.src.2, hp0]; simp
    ·obtain ⟨u, _, _, _, _, hu, hku, _, _, hr⟩ := par v hv hk hvs
     have := (h.rkb u hu hku).1; omega
   | succ m ih =>
    intro v hv hk hm
    by_cases hvs : v = s
    ·subst hvs; rw [h.src.2, hp0]; omega
    ·obtain ⟨u, i, fw, r, w, hu, hku, hE, hd, hr⟩ := par v hv hk hvs
     have h1 := ih u hu hku (by omega)
     have hw : -65536 ≤ w := by
      obtain ⟨g1, g2, a, b⟩ := hE
      have hcc := hc l[i] (List.getElem_mem g1)
      cases fw with
      | true => have := (a rfl).2.2.2.2; rw [rc_p0] at this; omega
      | false => have := (b rfl).2.2.2.2; rw [rc_p0] at this; omega
     omega
  exact key n v hv hk (h.rkb v hv hk).2
end
end Go.Proofs.Ytgjfjbphngamgaa.Flo

/-
 Plain: the set that a greatest flow leaves reachable is the same for all of them.
-/
set_option linter.all false
namespace Go.Proofs.Ytgjfjbphngamgaa.Flo
open Go Go.W
def Closed (l : List Arc) (on : List Int) (S : Nat → Bool) : Prop := ∀ i (h : i < l.length) (h2 : i < on.length),
 (on[i] < l[i].cap → S l[i].f.toNat = true → S l[i].t.toNat = true) ∧ (0 < on[i] → S l[i].t.toNat = true → S l[i].f.toNat = true)
/-- the least set with s that is closed under the arcs that can take more -/
structure ResSet (l : List Arc) (on : List Int) (n s : Nat) (R : Nat → Bool) : Prop where
 src : R s = true
 clo : Closed l on R
 least : ∀ S : Nat → Bool, S s = true → Closed l on S → ∀ v, v < n → R v = true → S v = true
section
variable {l : List Arc} {n s t : Nat} {on on' : List Int} {amt : Int} {R R' : Nat → Bool}
theorem closed_cut (hn : NodesOk n l) (hs : s < n) (hf : IsFlow n l s t on amt) (h1 : R s = true) (h2 : R t = false) (hc : Closed l on R) : cutCap (fun u => R u.toNat) l = amt := by
 rw [← netOut_eq_cut _ l on hf.v.len fun i hi hi2 => ?_]
 ·exact hf.set hn ⟨by omega, by omega⟩ (by simpa using h1) (by simpa using h2)
 ·obtain ⟨c1, c2⟩ := hc i hi hi2
  have hb := hf.v.bd i hi hi2
  refine ⟨fun u1 u2 => ?_, fun u1 u2 => ?_⟩
  ·rcases Int.lt_or_eq_of_le hb.2 with hlt | he
   ·rw [c1 hlt u1] at u2; cases u2
   ·exact he
  ·rcases Int.lt_or_eq_of_le hb.1 with hlt | he
   ·rw [c2 hlt u2] at u1; cases u1
   ·exact he.symm
end
end Go.Proofs.Ytgjfjbphngamgaa.Flo

/-
  Plain: rounds of relaxation.
-/
set_option linter.all false
namespace Go.Proofs.Ytgjfjbphngamgaa.Flo
open Go Go.W

def encS (i : Nat) (fw : Bool) : Int := if fw = true then (i : Int) + 1 else -(i : Int) - 1
def farI : Int := 1099511627776
structure BFI (l : List Arc) (on : List Int) (n s : Nat) (K : Nat → Bool) (D : Nat → Int) (rk : Nat → Int) (r : Int) (Pr : Nat → Bool → Prop) (d stp : List Int) (fin : List Bool) (T : Nat → Int) : Prop where
  dlen : d.length = n
  stlen : stp.length = n
  flen : fin.length = n
  finI : ∀ v, v < n → (dnB fin v = true ↔ (K v = true ∧ dAt d v = D v))
  unk : ∀ v, v < n → K v = false → dAt d v = farI
  lo : ∀ v, v < n → K v = true → D v ≤ dAt d v ∧ dAt d v ≤ farI
  tr : ∀ v, v < n → dnB fin v = true → v ≠ s → ∃ u i fw q w, u < n ∧ dnB fin u = true ∧ REdge p0 l on i fw u v q w ∧ dAt stp v = encS i fw ∧ D v = D u + w ∧ T u < T v
  tb : ∀ v, v < n → dnB fin v = true → 0 ≤ T v ∧ T v < (n : Int) - openN fin
  rnd : ∀ v, v < n → K v = true → rk v ≤ r → dnB fin v = true
  sf : dnB fin s = true
  pr : ∀ i fw u v q w, REdge p0 l on i fw u v q w → Pr i fw → u < n → v < n → K u = true → rk u ≤ r → dAt d v ≤ D u + w
section
variable {l : List Arc} {on : List Int} {n s : Nat} {K : Nat → Bool} {D : Nat → Int} {rk : Nat → Int} {r : Int} {Pr : Nat → Bool → Prop} {d stp : List Int} {fin : List Bool} {T : Nat → Int}
theorem BFI.mono (h : BFI l on n s K D rk r Pr d stp fin T) {Pr' : Nat → Bool → Prop} (hp : ∀ i fw u v q w, REdge p0 l on i fw u v q w → Pr' i fw → Pr i fw) : BFI l on n s K D rk r Pr' d stp fin T :=
  { h with pr := fun i fw u v q w hE hp' => h.pr i fw u v q w hE (hp i fw u v q w hE hp') }
theorem BFI.init (hS : SP l on n s K D rk) (hn : n ≤ 64) (hs : s < n) : BFI l on n s K D rk 0 (fun _ _ => False) ((List.replicate n farI).set s 0) (List.replicate n 0) ((List.replicate n false).set s true) (fun _ => 0) := by
  have hd : ∀ v, v < n → dAt ((List.replicate n farI).set s 0) v = if s = v then 0 else farI := fun v hv => by rw [dAt_set (by simpa using hs)]; simp [dAt, hv]
  have hf : ∀ v, v < n → dnB ((List.replicate n false).set s true) v = if s = v then true else false := fun v hv => by rw [dnB_set (by simpa using hs)]; simp [dnB, hv]
  have hfs : ∀ v, v < n → dnB ((List.replicate n false).set s true) v = true → v = s := fun v hv h => by
    rw [hf v hv] at h; split at h
    · rename_i e; exact e.symm
    · cases h
  have ho := openN_set (List.replicate n false) s (by simpa using hs) (by simp [hs])
  have ho2 : openN (List.replicate n false) = n := by simp [openN]
  refine ⟨by simp, by simp, by simp, fun v hv => ?_, fun v hv hk => ?_, fun v hv hk => ?_, fun v hv h hvs => absurd (hfs v hv h) hvs, fun v hv h => by constructor <;> omega, fun v hv hk hr => ?_, by rw [hf s hs, if_pos rfl], fun i fw u v q w _ hp => hp.elim⟩
  · rw [hf v hv, hd v hv]
    by_cases h : s = v
    · subst h; simp [hS.src.1, hS.src.2]
    · simp only [if_neg h]
      constructor
      · intro q; cases q
      · rintro ⟨q1, q2⟩
        have := (hS.bd v hv q1).2
        unfold farI at q2; omega
  · rw [hd v hv, if_neg (fun h => by subst h; rw [hS.src.1] at hk; cases hk)]
  · have := hS.bd v hv hk
    rw [hd v hv]
    split
    · rename_i h; subst h; rw [hS.src.2]; unfold farI; omega
    · unfold farI; omega
  · by_cases h : v = s
    · subst h; rw [hf v hv, if_pos rfl]
    · obtain ⟨u, _, _, _, _, hu, hku, _, _, hlt⟩ := hS.par v hv hk h
      have := (hS.rkb u hu hku).1; omega
/-- one relaxation -/
theorem BFI.relax (h : BFI l on n s K D rk r Pr d stp fin T) (hS : SP l on n s K D rk) (hn : n ≤ 64) {i : Nat} {fw : Bool} {u v : Nat} {q w : Int} (hE : REdge p0 l on i fw u v q w) (hu : u < n) (hv : v < n) (h1 : dAt d u < farI) (h2 : dAt d u + w < dAt d v) :
    ∃ fin' T', BFI l on n s K D rk r (fun j f => Pr j f ∨ (j = i ∧ f = fw)) (d.set v (dAt d u + w)) (stp.set v (encS i fw)) fin' T' := by
  have hku : K u = true := by
    cases hk : K u with
    | true => rfl
    | false => have := h.unk u hu hk; omega
  obtain ⟨hkv, hdv⟩ := hS.clo i fw u v q w hE hu hv hku
  have hlu := h.lo u hu hku
  have hlv := h.lo v hv hkv
  have huv : u ≠ v := fun he => by subst he; omega
  have hvl : v < d.length := by rw [h.dlen]; exact hv
  have hvs : v < stp.length := by rw [h.stlen]; exact hv
  have hvf : v < fin.length := by rw [h.flen]; exact hv
  have hnf : dnB fin v = false := by
    cases hf : dnB fin v with
    | false => rfl
    | true => have := ((h.finI v hv).1 hf).2; omega
  have hvne : v ≠ s := fun he => by rw [he, h.sf] at hnf; cases hnf
  have d1 : ∀ x, x ≠ v → dAt (d.set v (dAt d u + w)) x = dAt d x := fun x hx => by rw [dAt_set hvl, if_neg (Ne.symm hx)]
  have d2 : dAt (d.set v (dAt d u + w)) v = dAt d u + w := by rw [dAt_set hvl, if_pos rfl]
  have s1 : ∀ x, x ≠ v → dAt (stp.set v (encS i fw)) x = dAt stp x := fun x hx => by rw [dAt_set hvs, if_neg (Ne.symm hx)]
  have s2 : dAt (stp.set v (encS i fw)) v = encS i fw := by rw [dAt_set hvs, if_pos rfl]
  have hfne : ∀ x, dnB fin x = true → x ≠ v := fun x hx he => by rw [he, hnf] at hx; cases hx
  have hunk : ∀ x, x < n → K x = false → dAt (d.set v (dAt d u + w)) x = farI := fun x hx hk => by
    rw [d1 x (fun he => by rw [he, hkv] at hk; cases hk)]; exact h.unk x hx hk
  have hlo : ∀ x, x < n → K x = true → D x ≤ dAt (d.set v (dAt d u + w)) x ∧ dAt (d.set v (dAt d u + w)) x ≤ farI := fun x hx hk => by
    by_cases he : x = v
    · subst he; rw [d2]; omega
    · rw [d1 x he]; exact h.lo x hx hk
  have hpr : ∀ j f a b q' w', REdge p0 l on j f a b q' w' → (Pr j f ∨ (j = i ∧ f = fw)) → a < n → b < n → K a = true → rk a ≤ r → dAt (d.set v (dAt d u + w)) b ≤ D a + w' := fun j f a b q' w' hE' hp ha hb hka hra => by
    rcases hp with hp | ⟨rfl, rfl⟩
    · have := h.pr j f a b q' w' hE' hp ha hb hka hra
      by_cases he : b = v
      · subst he; rw [d2]; omega
      · rw [d1 b he]; exact this
    · obtain ⟨g1, g2, g3⟩ := hE'.same hE
      subst g1 g2 g3
      have := ((h.finI a ha).1 (h.rnd a ha hka hra)).2
      rw [d2]; omega
  by_cases hfin : dAt d u + w = D v
  · have hdu : dAt d u = D u := by omega
    have hfu : dnB fin u = true := (h.finI u hu).2 ⟨hku, hdu⟩
    have hop := openN_set fin v hvf hnf
    have f1 : ∀ x, x ≠ v → dnB (fin.set v true) x = dnB fin x := fun x hx => by rw [dnB_set hvf, if_neg (Ne.symm hx)]
    have f2 : dnB (fin.set v true) v = true := by rw [dnB_set hvf, if_pos rfl]
    have f3 : ∀ x, dnB fin x = true → dnB (fin.set v true) x = true := fun x hx => by rw [f1 x (hfne x hx)]; exact hx
    refine ⟨fin.set v true, fun x => if x = v then (n : Int) - openN fin else T x, ⟨by simp [h.dlen], by simp [h.stlen], by simp [h.flen], fun x hx => ?_, hunk, hlo, fun x hx hf hxs => ?_, fun x hx hf => ?_, fun x hx hk hr => f3 x (h.rnd x hx hk hr), f3 s h.sf, hpr⟩⟩
    · by_cases he : x = v
      · subst he; rw [f2, d2]; simp [hkv, hfin]
      · rw [f1 x he, d1 x he]; exact h.finI x hx
    · by_cases he : x = v
      · subst he
        exact ⟨u, i, fw, q, w, hu, f3 u hfu, hE, s2, by omega, by simp only [if_neg (hfne u hfu), if_true]; exact (h.tb u hu hfu).2⟩
      · rw [f1 x he] at hf
        obtain ⟨a, j, f, q', w', a1, a2, a3, a4, a5, a6⟩ := h.tr x hx hf hxs
        exact ⟨a, j, f, q', w', a1, f3 a a2, a3, by rw [s1 x he]; exact a4, a5, by simp only [if_neg he, if_neg (hfne a a2)]; exact a6⟩
    · by_cases he : x = v
      · subst he
        have := openN_le fin; rw [h.flen] at this
        simp only [if_true]; omega
      · rw [f1 x he] at hf
        have := h.tb x hx hf
        simp only [if_neg he]; omega
  · refine ⟨fin, T, ⟨by simp [h.dlen], by simp [h.stlen], h.flen, fun x hx => ?_, hunk, hlo, fun x hx hf hxs => ?_, h.tb, h.rnd, h.sf, hpr⟩⟩
    · by_cases he : x = v
      · subst he; rw [hnf, d2]
        constructor
        · intro q; cases q
        · rintro ⟨_, q⟩; exact absurd q hfin
      · rw [d1 x he]; exact h.finI x hx
    · obtain ⟨a, j, f, q', w', a1, a2, a3, a4, a5, a6⟩ := h.tr x hx hf hxs
      exact ⟨a, j, f, q', w', a1, a2, a3, by rw [s1 x (hfne x hf)]; exact a4, a5, a6⟩
/-- an arc that cannot be relaxed -/
theorem BFI.keep (h : BFI l on n s K D rk r Pr d stp fin T) (hn : n ≤ 64) (hS : SP l on n s K D rk) {i : Nat} {fw : Bool} {u v : Nat} {q w : Int} (hE : REdge p0 l on i fw u v q w) (hno : ¬ (dAt d u < farI ∧ dAt d u + w < dAt d v)) :
    BFI l on n s K D rk r (fun j f => Pr j f ∨ (j = i ∧ f = fw)) d stp fin T :=
  { h with pr := fun j f a b q' w' hE' hp ha hb hka hra => by
                  rcases hp with hp | ⟨rfl, rfl⟩
                  · exact h.pr j f a b q' w' hE' hp ha hb hka hra
                  · obtain ⟨g1, g2, g3⟩ := hE'.same hE
                    subst g1 g2 g3
                    have h1 := ((h.finI a ha).1 (h.rnd a ha hka hra)).2
                    have h2 := hS.bd a ha hka
                    have h3 : dAt d a < farI := by unfold farI; omega
                    have h4 : ¬ (dAt d a + w' < dAt d b) := fun q => hno ⟨h3, q⟩
                    omega }
/-- a round is over -/
theorem BFI.round (h : BFI l on n s K D rk r (fun i _ => i < l.length) d stp fin T) (hS : SP l on n s K D rk) : BFI l on n s K D rk (r + 1) (fun i _ => i < 0) d stp fin T :=
  { h with
    rnd := fun v hv hk hr => by
      by_cases hvs : v = s
      · subst hvs; exact h.sf
      · obtain ⟨u, i, fw, q, w, hu, hku, hE, hD, hlt⟩ := hS.par v hv hk hvs
        have h1 := h.pr i fw u v q w hE hE.1 hu hv hku (by omega)
        have h2 := h.lo v hv hk
        exact (h.finI v hv).2 ⟨hk, by omega⟩
    pr := fun i fw u v q w _ hp => absurd hp (by omega) }
/-- what the rounds give -/
structure CR (l : List Arc) (on : List Int) (n s : Nat) (K : Nat → Bool) (D : Nat → Int) (T : Nat → Int) (d stp : List Int) : Prop where
  sp : ∃ rk, SP l on n s K D rk
  dlen : d.length = n
  stlen : stp.length = n
  kd : ∀ v, v < n → K v = true → dAt d v = D v ∧ D v < farI
  unk : ∀ v, v < n → K v = false → dAt d v = farI
  tr : ∀ v, v < n → K v = true → v ≠ s → ∃ u i fw q w, u < n ∧ K u = true ∧ REdge p0 l on i fw u v q w ∧ dAt stp v = encS i fw ∧ D v = D u + w ∧ T u < T v
  tb : ∀ v, v < n → K v = true → 0 ≤ T v ∧ T v ≤ n
theorem BFI.done (h : BFI l on n s K D rk r Pr d stp fin T) (hS : SP l on n s K D rk) (hn : n ≤ 64) (hr : r = n) : CR l on n s K D T d stp := by
  have hf : ∀ v, v < n → K v = true → dnB fin v = true := fun v hv hk => h.rnd v hv hk (by have := (hS.rkb v hv hk).2; omega)
  refine ⟨⟨rk, hS⟩, h.dlen, h.stlen, fun v hv hk => ⟨((h.finI v hv).1 (hf v hv hk)).2, by have := (hS.bd v hv hk).2; unfold farI; omega⟩, h.unk, fun v hv hk hvs => ?_, fun v hv hk => by have := h.tb v hv (hf v hv hk); omega⟩
  obtain ⟨u, i, fw, q, w, a1, a2, a3, a4, a5, a6⟩ := h.tr v hv (hf v hv hk) hvs
  exact ⟨u, i, fw, q, w, a1, ((h.finI u a1).1 a2).1, a3, a4, a5, a6⟩
end
end Go.Proofs.Ytgjfjbphngamgaa.Flo

/-
 Plain: ways by steps of the reference, and what a push along one does.
-/
set_option linter.all false
namespace Go.Proofs.Ytgjfjbphngamgaa.Flo
open Go Go.W
/-- a step of the reference, as a step -/
def rstep (l : List Arc) (on : List Int) (k : Int) : Step :=
 if 0 < k then ⟨(l.getD (k - 1).toNat default).f, ((k - 1).toNat : Nat), (l.getD (k - 1).toNat default).cap - on.getD (k - 1).toNat 0, true, true, 0⟩
 else ⟨(l.getD (-k - 1).toNat default).t, ((-k - 1).toNat : Nat), on.getD (-k - 1).toNat 0, false, true, 0⟩
theorem rstep_enc {l : List Arc} {on : List Int} {i : Nat} {fw : Bool} {u v : Nat} {q w : Int} (h : REdge p0 l on i fw u v q w) : rstep l on (encS i fw) = ⟨u, i, q, fw, true, 0⟩ := by
 obtain ⟨h1, h2, a, b⟩ := h
 cases fw with
 | true =>
  obtain ⟨g1, g2, g3, _⟩ := a rfl
  have e : encS i true = (i : Int) + 1 := rfl
  rw [e]
  unfold rstep
  rw [if_pos (by omega), show ((i : Int) + 1 - 1).toNat = i by omega]
  simp [h1, h2, g1, g3]
 | false =>
  obtain ⟨g1, g2, g3, _⟩ := b rfl
  have e : encS i false = -(i : Int) - 1 := rfl
  rw [e]
  unfold rstep
  rw [if_neg (by omega), show (-(-(i : Int) - 1) - 1).toNat = i by omega]
  simp [h1, h2, g1, g3]
def RPath (l : List Arc) (on stp : List Int) (n s : Nat) : List Nat → Nat → Prop
 | [], k => k = s
 | x :: xs, k => k = x ∧ k ≠ s ∧ k < n ∧ ∃ (p i : Nat) (fw : Bool) (q w : Int), p < n ∧ REdge p0 l on i fw p k q w ∧ dAt stp k = encS i fw ∧ RPath l on stp n s xs p
theorem sts_at {l : List Arc} {on stp : List Int} {v : Nat} (h : v < stp.length) : (stp.map (rstep l on)).getD v default = rstep l on (dAt stp v) := by
 simp [dAt, h]
section
variable {l : List Arc} {on : List Int} {n s t : Nat} {K : Nat → Bool} {D : Nat → Int} {T : Nat → Int} {d stp : List Int}
theorem CR.path (h : CR l on n s K D T d stp) : ∀ (m : Nat) (v : Nat), v < n → K v = true → T v ≤ m → ∃ ks, ks.length ≤ m ∧ RPath l on stp n s ks v ∧ Path T l on n s (stp.map (rstep l on)) ks v ∧ ∀ x ∈ ks, x < n ∧ K x = true ∧ x ≠ s
 | 0, v, hv, hk, hm => by
  by_cases hvs : v = s
  ·exact ⟨[], by simp, hvs, hvs, fun x hx => by cases hx⟩
  ·obtain ⟨p, _, _, _, _, hp, hkp, _, _, _, hdp⟩ := h.tr v hv hk hvs
   have := (h.tb p hp hkp).1; omega
 | m + 1, v, hv, hk, hm => by
  by_cases hvs : v = s
  ·exact ⟨[], by simp, hvs, hvs, fun x hx => by cases hx⟩
  ·obtain ⟨p, i, fw, q, w, hp, hkp, hE, hst, _, hdp⟩ := h.tr v hv hk hvs
   obtain ⟨ks, hl, hR, hP, ha⟩ := CR.path h m p hp hkp (by omega)
   refine ⟨v :: ks, by simp; omega, ⟨rfl, hvs, hv, p, i, fw, q, w, hp, hE, hst, hR⟩, ⟨rfl, hvs, hv, p, hp, hdp, ?_, hP⟩, fun x hx => ?_⟩
   ·rw [sts_at (by rw [h.stlen]; exact hv), hst, rstep_enc hE]; exact hE.edge
   ·rcases List.mem_cons.1 hx with rfl | hx
    ·exact ⟨hv, hk, hvs⟩
    ·exact ha x hx
def natF (D : Nat → Int) : Int → Int := fun u => D u.toNat
/-- the arcs of the way are tight -/
theorem CR.tight (h : CR l on n s K D T d stp) {ks : List Nat} (hks : ∀ x ∈ ks, x < n ∧ K x = true ∧ x ≠ s) {x : Nat} (hx : x ∈ ks) {i : Nat} (hi : i < l.length) (he : ((stp.map (rstep l on)).getD x default).arc.toNat = i) :
  ∃ (a b : Nat), a < n ∧ b < n ∧ K a = true ∧ K b = true ∧ l[i].f = a ∧ l[i].t = b ∧ l[i].cost + D a - D b = 0 := by
 obtain ⟨h1, h2, h3⟩ := hks x hx
 obtain ⟨u, j, fw, q, w, hu, hku, hE, hst, hD, _⟩ := h.tr x h1 h2 h3
 rw [sts_at (by rw [h.stlen]; exact h1), hst, rstep_enc hE] at he
 have hij : j = i := by simpa using he
 subst hij
 obtain ⟨_, _, a, b⟩ := hE
 cases fw with
 | true =>
  obtain ⟨g1, g2, _, _, g5⟩ := a rfl
  rw [rc_p0] at g5
  exact ⟨u, x, hu, h1, hku, h2, g1, g2, by omega⟩
 | false =>
  obtain ⟨g1, g2, _, _, g5⟩ := b rfl
  rw [rc_p0] at g5
  exact ⟨x, u, h1, hu, h2, hku, g2, g1, by omega⟩
theorem CR.push_cost (h : CR l on n s K D T d stp) (hV : VFlow l on) {ks : List Nat} (hP : Path T l on n s (stp.map (rstep l on)) ks t) (hks : ∀ x ∈ ks, x < n ∧ K x = true ∧ x ≠ s) {M : Int} (hM : 0 ≤ M) (hr : ∀ x ∈ ks, M ≤ ((stp.map (rstep l on)).getD x default).room) :
  costOf l (pushOn (stp.map (rstep l on)) ks M on) = costOf l on + M * D t := by
 obtain ⟨hV2, hno⟩ := push_flow hM (natF D) ks t on hP hr hV fun _ _ => rfl
 have hlin : lin (rc (natF D)) l (pushOn (stp.map (rstep l on)) ks M on) = lin (rc (natF D)) l on := lin_congr _ l on _ hV.len hV2.len fun i h1 h2 h3 => by
  rcases pushOn_at (stp.map (rstep l on)) M i ks on with he | ⟨x, hx, he⟩
  ·refine .inl ?_
   rw [List.getD_eq_getElem?_getD, List.getD_eq_getElem?_getD, List.getElem?_eq_getElem h3, List.getElem?_eq_getElem h2] at he
   simpa using he
  ·obtain ⟨a, b, _, _, _, _, hf, ht, hc⟩ := h.tight hks hx h1 he
   refine .inr ?_
   unfold rc natF
   rw [hf, ht]; simpa using hc
 rw [lin_rc, lin_rc, hno] at hlin
 obtain ⟨_, hS⟩ := h.sp
 have e1 : natF D (s : Int) = 0 := by unfold natF; simpa using hS.src.2
 have e2 : natF D (t : Int) = D t := by unfold natF; simp
 rw [e1, e2, Int.zero_sub, Int.mul_neg] at hlin
 omega
theorem CR.push_opt {pots : List Int} {sts : List Step} {dist : List Int} {rk : Nat → Int} (hnr : Near (potF pots) l on n s sts dist rk) (h : CR l on n s (kn sts) (fun v => dAt dist v + pots.getD v 0) T d stp) (ho : OptPot (potF pots) l on) (hn : NodesOk n l) (hl : pots.length = n)
  (hlen : on.length = l.length) {ks : List Nat} (hks : ∀ x ∈ ks, x < n ∧ kn sts x = true ∧ x ≠ s) (M : Int) : OptPot (potF (newL sts dist (farTo sts dist n) pots)) l (pushOn (stp.map (rstep l on)) ks M on) := by
 intro i h1 h2
 have h2' : i < on.length := by rw [pushOn_length] at h2; exact h2
 rcases pushOn_at (stp.map (rstep l on)) M i ks on with he | ⟨x, hx, he⟩
 ·have e : (pushOn (stp.map (rstep l on)) ks M on)[i] = on[i] := by
   rw [List.getD_eq_getElem?_getD, List.getD_eq_getElem?_getD, List.getElem?_eq_getElem h2, List.getElem?_eq_getElem h2'] at he
   simpa using he
  rw [e]
  exact near_opt hnr ho hn hl (farTo_spec sts dist n).2.1 i h1 h2'
 ·obtain ⟨a, b, ha, hb, hka, hkb, hf, ht, hc⟩ := h.tight hks hx h1 he
  have e1 := newL_at (sts := sts) (dist := dist) (F := farTo sts dist n) (show a < pots.length by omega)
  have e2 := newL_at (sts := sts) (dist := dist) (F := farTo sts dist n) (show b < pots.length by omega)
  rw [if_pos hka] at e1
  rw [if_pos hkb] at e2
  have : rc (potF (newL sts dist (farTo sts dist n) pots)) l[i] = 0 := by
   unfold rc
   rw [hf, ht]
   simp only [potF, Int.toNat_natCast]
   rw [e1, e2]
   have hc : l[i].cost + (dAt dist a + pots.getD a 0) - (dAt dist b + pots.getD b 0) = 0 := hc
   omega
  rw [this]
  exact ⟨fun _ => Int.le_refl _, fun _ => Int.le_refl _⟩
/-- the nodes reached -/
theorem CR.resSet (h : CR l on n s K D T d stp) (hn : NodesOk n l) (hlen : on.length = l.length) (hs : s < n) : ResSet l on n s K := by
 obtain ⟨rk, hS⟩ := h.sp
 refine ⟨hS.src.1, fun i h1 h2 => ?_, fun S hSs hc v hv hk => ?_⟩
 ·obtain ⟨a, b, ha, hb, hfa, htb, e1, e2⟩ := redge_of (on := on) hn h1 h2 p0
  rw [hfa, htb]
  simp only [Int.toNat_natCast]
  exact ⟨fun hc hk => (hS.clo _ _ _ _ _ _ (e1 hc) ha hb hk).1, fun hc hk => (hS.clo _ _ _ _ _ _ (e2 hc) hb ha hk).1⟩
 ·have key : ∀ (m : Nat) (v : Nat), v < n → K v = true → rk v ≤ m → S v = true := by
   intro m
   induction m with
   | zero =>
    intro v hv hk hm
    by_cases hvs : v = s
    ·rw [hvs]; exact hSs
    ·obtain ⟨p, _, _, _, _, hp, hkp, _, _, hdp⟩ := hS.par v hv hk hvs
     have := (hS.rkb p hp hkp).1; omega
   | succ m ih =>
    intro v hv hk hm
    by_cases hvs : v = s
    ·rw [hvs]; exact hSs
    ·obtain ⟨p, i, fw, q, w, hp, hkp, hE, _, hdp⟩ := hS.par v hv hk hvs
     have hpS := ih p hp hkp (by omega)
     obtain ⟨g1, g2, a, b⟩ := hE
     obtain ⟨c1, c2⟩ := hc i g1 g2
     cases fw with
     | true =>
      obtain ⟨k1, k2, _, k4, _⟩ := a rfl
      rw [k1, k2] at c1
      exact c1 k4 (by simpa using hpS)
     | false =>
      obtain ⟨k1, k2, _, k4, _⟩ := b rfl
      rw [k1, k2] at c2
      exact c2 k4 (by simpa using hpS)
  exact key n v hv hk (hS.rkb v hv hk).2
theorem res_isMax (hn : NodesOk n l) (hs : s < n) {amt : Int} (hf : IsFlow n l s t on amt) (hR : ResSet l on n s K) (ht : K t = false) : IsMax n l s t amt :=
 ⟨⟨on, hf⟩, fun u => K u.toNat, by simpa using hR.src, by simpa using ht, closed_cut hn hs hf hR.src ht hR.clo⟩
end
/-- a flow that is at least as great as any can be is greatest -/
theorem full_isMax {n s t : Nat} {l : List Arc} {on : List Int} {amt : Int} (hn : NodesOk n l) (hs : s < n) (ht : t < n) (hst : s ≠ t) (hf : IsFlow n l s t on amt) (hle : ∀ on' amt', IsFlow n l s t on' amt' → amt' ≤ amt) : IsMax n l s t amt := by
 have hsp := reachFin_spec (s := s) (on := on) hn hf.v.len hs
 cases hk : kn (reachFin l on n s) t with
 | false => exact reached_isMax hn hs hsp hf hk
 | true =>
  obtain ⟨ks, _, hP⟩ := path_of hsp.tree n t ht hk (hsp.pos t ht hk).2
  obtain ⟨m1, m2, m3⟩ := pushMin_spec (reachFin l on n s) ks 1 (by omega) fun x hx => by obtain ⟨p, _, hE⟩ := hP.edge x hx; exact hE.room_pos
  have := hle _ _ (push_isFlow (by omega) hst hP m3 hf)
  omega
end Go.Proofs.Ytgjfjbphngamgaa.Flo

/-
 Walks: the reference's Check, ends, Small, Bools.
-/
set_option linter.all false
namespace Go.Proofs.Ytgjfjbphngamgaa.Flo
open Go Go.W Go.RowKit
theorem not_node (n k : Int) : (decide (k < 0) || decide (n ≤ k)) = !isNode n k := by
 unfold isNode
 by_cases h1 : k < 0 <;> by_cases h2 : n ≤ k <;> simp [h1, h2] <;> omega
theorem arcBad_ref (n : Int) (a : Arc) : (((decide (a.f < 0) || decide (n ≤ a.f)) || decide (a.t < 0)) || decide (n ≤ a.t)) = arcBad n a := by
 rw [Bool.or_assoc, not_node, not_node]; rfl
set_option maxHeartbeats 400000 in
theorem refCheck (n : Int) (A : Option Addr) (l : List Arc) (cap : Nat) (w0 : World) (hz : ArcsAt w0 A l) :
  Calls Try.prog 83 #[.agg #[I n, .slice A l.length cap]] w0 fun e w' => e = .returned (I (netErr n l)) ∧ Below w0.heap.size w0 w' := by
 have H := SH.refl w0
 refine Calls.ofWP Try.func83 rfl Try.results83 Try.ntmps83 rfl <| Y.qr <| Y.bx (cA rfl) H ?_
 clear H; intro g1 w H
 refine Y.v (Ev.asI rfl) <| Y.z <| Y.q <| Y.qr <| Y.v (Y.f rfl rfl) <| Y.v (Y.l H 0 rfl rfl rfl) <| Y.v (Ev.lss rfl rfl) <| Y.v (Ev.mvB rfl) <| Y.g rfl rfl (fun hg => Y.f rfl rfl) <| Y.g rfl rfl (fun hg => Ev.load1 (agg_run rfl) (gvE hg rfl) (H.ldL 0 rfl _ rfl)) <| Y.g rfl rfl (fun hg => Ev.gtr (gvE hg rfl) rfl) <| Y.v (Ev.pickOr rfl rfl rfl) <| Y.z ?_
 refine WP.cond rfl (fun hc1 => ?_) (fun hc1 => ?_)
 ·refine Y.qr <| Y.v (Ev.asI rfl) <| Y.z ?_
  refine WP.ret ⟨_, rfl, ?_⟩
  exact ⟨by rw [netErr, if_pos hc1]; rfl, H.below⟩
 refine Y.k <| Y.q <| Y.qr <| Y.v (Y.f rfl rfl) <| Y.v (Y.l H 0 rfl rfl rfl) <| Y.v (Y.n rfl) <| Y.v (Ev.gtr rfl rfl) <| Y.z ?_
 refine WP.cond rfl (fun hc3 => ?_) (fun hc3 => ?_)
 ·refine Y.qr <| Y.v (Ev.asI rfl) <| Y.z ?_
  refine WP.ret ⟨_, rfl, ?_⟩
  exact ⟨by rw [netErr, if_neg (by simp [hc1]), if_pos (by simpa using hc3)]; rfl, H.below⟩
 have hl : l.length ≤ 512 := by simp at hc3; omega
 have e0 : netErr n l = arcsErr n l := by rw [netErr, if_neg (by simp [hc1]), if_neg (by simpa using hc3)]
 refine Y.k <| Y.q <| Y.qr <| Y.v (Ev.asI rfl) <| Y.z <| WP.block <| WP.loop [2, 3, 4, 17, 18, 19, 20, 21, 22, 23, 24, 25, 26, 27, 28, 29, 30, 31, 32, 33, 34, 35, 36, 37, 38, 39, 40, 41, 42, 43, 44, 45, 46, 47, 48, 49, 50, 51, 52, 53, 54, 55, 56, 57, 58, 59, 60, 61, 62, 63, 64, 65, 66, 67, 68] (fun k e w' => ∃ j : Nat, j + k = l.length ∧ e 3 = .int .i64 j ∧ SH w0 [] w' [⟨g1, 76, [I n, .slice A l.length cap]⟩] ∧ ∀ i (hi : i < l.length), i < j → arcBad n l[i] = false ∧ arcRange l[i] = false) (l.length) (⟨0, by omega, rfl, H, fun i _ hi => absurd hi (by omega)⟩) ?_
 clear H
 rintro k u w ⟨j, hk, h3', H, hall⟩
 refine WP.know (t := 3) h3' <| Y.q <| Y.qr <| Y.v (Y.m rfl) <| Y.v (Y.f rfl rfl) <| Y.v (Y.l H 0 rfl rfl rfl) <| Y.v (Y.n rfl) <| Y.v (Ev.lss rfl rfl) <| Y.z ?_
 refine WP.cond rfl (fun hc6 => ?_) (fun hc6 => ?_)
 ·have hlt : j < l.length := by simpa using hc6
  obtain ⟨b, o, rfl, hc⟩ := hz j hlt
  have hc' := cellsAt_sh H hc
  refine Y.k <| Y.q <| WP.block <| Y.qr <| Y.v (Y.f rfl rfl) <| Y.v (Y.l H 0 rfl rfl rfl) <| Y.v (Y.m rfl) <| Y.v (Y.X rfl rfl rfl rfl rfl) <| Y.v (by (change Ev _ _ _ _ (Op.load 96 (Operand.tmp 27)) _; exact Ev.loadN (arcCells l[j]) (agg_run rfl) (size_run rfl) rfl hc')) <| Y.al H rfl rfl ?_
  clear H; intro g4 w H
  refine OPS.store 0 _ rfl rfl rfl (size_run rfl) rfl (cA rfl) rfl rfl H rfl (by simp) ?_
  clear H; intro w H; try simp only [List.set_cons_zero, List.set_cons_succ, putL, Nat.zero_add] at H
  refine Y.z <| Y.q <| Y.qr <| Y.v (Y.f rfl rfl) <| Y.v (Y.l H 0 rfl rfl rfl) <| Y.v (Ev.lss rfl rfl) <| Y.v (Ev.mvB rfl) <| Y.g rfl rfl (fun hg => Y.f rfl rfl) <| Y.g rfl rfl (fun hg => Ev.load1 (agg_run rfl) (gvE hg rfl) (H.ldL 0 rfl _ rfl)) <| Y.g rfl rfl (fun hg => Y.f rfl rfl) <| Y.g rfl rfl (fun hg => Ev.load1 (agg_run rfl) (gvE hg rfl) (H.ldL 1 rfl _ rfl)) <| Y.g rfl rfl (fun hg => Ev.geq (gvE hg rfl) (gvE hg rfl)) <| Y.v (Ev.pickOr rfl rfl rfl) <| Y.v (Ev.mvB rfl) <| Y.g rfl rfl (fun hg => Y.f rfl rfl) <| Y.g rfl rfl (fun hg => Ev.load1 (agg_run rfl) (gvE hg rfl) (H.ldL 0 rfl _ rfl)) <| Y.g rfl rfl (fun hg => Ev.lss (gvE hg rfl) rfl) <| Y.v (Ev.pickOr rfl rfl rfl) <| Y.v (Ev.mvB rfl) <| Y.g rfl rfl (fun hg => Y.f rfl rfl) <| Y.g rfl rfl (fun hg => Ev.load1 (agg_run rfl) (gvE hg rfl) (H.ldL 0 rfl _ rfl)) <| Y.g rfl rfl (fun hg => Y.f rfl rfl) <| Y.g rfl rfl (fun hg => Ev.load1 (agg_run rfl) (gvE hg rfl) (H.ldL 1 rfl _ rfl)) <| Y.g rfl rfl (fun hg => Ev.geq (gvE hg rfl) (gvE hg rfl)) <| Y.v (Ev.pickOr rfl rfl rfl) <| Y.z ?_
  refine WP.cond rfl (fun hc9 => ?_) (fun hc9 => ?_)
  ·have hbad : arcBad n l[j] = true := by rw [← arcBad_ref]; exact hc9
   refine Y.qr <| Y.v (Ev.asI rfl) <| Y.z ?_
   refine WP.ret ⟨_, rfl, ?_⟩
   exact ⟨by rw [e0, arcsErr_drop (by omega) hall, List.drop_eq_getElem_cons hlt, arcsErr, if_pos hbad]; rfl, H.below⟩
  have hbad : arcBad n l[j] = false := by rw [← arcBad_ref]; exact hc9
  refine Y.k <| Y.qr <| Y.v (Y.f rfl rfl) <| Y.v (Y.l H 0 rfl rfl rfl) <| Y.v (Ev.lss rfl rfl) <| Y.v (Ev.mvB rfl) <| Y.g rfl rfl (fun hg => Y.f rfl rfl) <| Y.g rfl rfl (fun hg => Ev.load1 (agg_run rfl) (gvE hg rfl) (H.ldL 0 rfl _ rfl)) <| Y.g rfl rfl (fun hg => Ev.gtr (gvE hg rfl) rfl) <| Y.v (Ev.pickOr rfl rfl rfl) <| Y.v (Ev.mvB rfl) <| Y.g rfl rfl (fun hg => Y.f rfl rfl) <| Y.g rfl rfl (fun hg => Ev.load1 (agg_run rfl) (gvE hg rfl) (H.ldL 0 rfl _ rfl)) <| Y.g rfl rfl (fun hg => Ev.lss (gvE hg rfl) rfl) <| Y.v (Ev.pickOr rfl rfl rfl) <| Y.v (Ev.mvB rfl) <| Y.g rfl rfl (fun hg => Y.f rfl rfl) <| Y.g rfl rfl (fun hg => Ev.load1 (agg_run rfl) (gvE hg rfl) (H.ldL 0 rfl _ rfl)) <| Y.g rfl rfl (fun hg => Ev.gtr (gvE hg rfl) rfl) <| Y.v (Ev.pickOr rfl rfl rfl) <| Y.z ?_
  refine WP.cond rfl (fun hc11 => ?_) (fun hc11 => ?_)
  ·refine Y.qr <| Y.v (Ev.asI rfl) <| Y.z ?_
   refine WP.ret ⟨_, rfl, ?_⟩
   exact ⟨by rw [e0, arcsErr_drop (by omega) hall, List.drop_eq_getElem_cons hlt, arcsErr, if_neg (by rw [hbad]; simp), if_pos (show arcRange l[j] = true from hc11)]; rfl, H.below⟩
  refine Y.k <| Y.r <| Y.v (Y.m rfl) <| Y.v (Y.p rfl rfl) <| Y.v (Ev.asI rfl) <| Y.z ?_
  refine ⟨(by repeat (first | exact Agree.refl _ _ | exact Agree.mix _ _ _ | refine Agree.upd rfl ?_ | refine Agree.mix2 rfl ?_)), k - 1, by omega, j + 1, by omega, rfl, H.drop (by simp), fun i hi hij => ?_⟩
  rcases Nat.lt_succ_iff_lt_or_eq.1 hij with h | rfl
  ·exact hall i hi h
  ·exact ⟨hbad, hc11⟩
 refine WP.exit <| XB.hit <| Y.qr <| Y.v (Ev.asI rfl) <| Y.z ?_
 refine WP.ret ⟨_, rfl, ?_⟩
 have : j = l.length := by simp at hc6; omega
 subst this
 exact ⟨by rw [e0, arcsErr_drop (by omega) hall]; simp [arcsErr]; rfl, H.below⟩
theorem refEnds (n f t : Int) (A : Option Addr) (l : List Arc) (cap : Nat) (w0 : World) (hz : ArcsAt w0 A l) :
  Calls Try.prog 63 #[.agg #[I n, .slice A l.length cap], I f, I t] w0 fun e w' => e = .returned (I (endsErr n l f t)) ∧ Below w0.heap.size w0 w' := by
 have H := SH.refl w0
 refine Calls.ofWP Try.func63 rfl Try.results63 Try.ntmps63 rfl <| Y.qr <| Y.bx (cA rfl) H ?_
 clear H; intro g3 w H
 refine Y.v (Ev.asI rfl) <| Y.z <| Y.qr <| Y.v (Y.o H 0 rfl rfl) <| OPS.call (d := some 9) rfl rfl rfl (EvC.func (fun_run rfl)) (refCheck n A l cap w (hz.sh H)) ?_
 rintro _ w ⟨rfl, hb⟩
 refine ⟨_, rfl, ?_⟩
 replace H := H.toBelow hb; clear hb
 refine Y.v (Ev.asI rfl) <| Y.z <| Y.q <| Y.qr <| Y.v (Y.m rfl) <| Y.v (Ev.neq rfl rfl) <| Y.z ?_
 refine WP.cond rfl (fun hc2 => ?_) (fun hc2 => ?_)
 ·refine Y.qr <| Y.v (Y.m rfl) <| Y.v (Ev.asI rfl) <| Y.z ?_
  refine WP.ret ⟨_, rfl, ?_⟩
  have h : netErr n l ≠ 0 := by simpa using hc2
  exact ⟨by rw [endsErr, if_pos h]; rfl, H.below⟩
 have h0 : netErr n l = 0 := by simpa using hc2
 refine Y.k <| Y.q <| Y.qr <| Y.v (Y.m rfl) <| Y.v (Ev.lss rfl rfl) <| Y.v (Ev.mvB rfl) <| Y.g rfl rfl (fun hg => Y.m rfl) <| Y.g rfl rfl (fun hg => Y.f rfl rfl) <| Y.g rfl rfl (fun hg => Ev.load1 (agg_run rfl) (gvE hg rfl) (H.ldL 0 rfl _ rfl)) <| Y.g rfl rfl (fun hg => Ev.geq (gvE hg rfl) (gvE hg rfl)) <| Y.v (Ev.pickOr rfl rfl rfl) <| Y.v (Ev.mvB rfl) <| Y.g rfl rfl (fun hg => Y.m rfl) <| Y.g rfl rfl (fun hg => Ev.lss (gvE hg rfl) rfl) <| Y.v (Ev.pickOr rfl rfl rfl) <| Y.v (Ev.mvB rfl) <| Y.g rfl rfl (fun hg => Y.m rfl) <| Y.g rfl rfl (fun hg => Y.f rfl rfl) <| Y.g rfl rfl (fun hg => Ev.load1 (agg_run rfl) (gvE hg rfl) (H.ldL 0 rfl _ rfl)) <| Y.g rfl rfl (fun hg => Ev.geq (gvE hg rfl) (gvE hg rfl)) <| Y.v (Ev.pickOr rfl rfl rfl) <| Y.z ?_
 refine WP.cond rfl (fun hc4 => ?_) (fun hc4 => ?_)
 ·refine Y.qr <| Y.v (Ev.asI rfl) <| Y.z ?_
  refine WP.ret ⟨_, rfl, ?_⟩
  rw [Bool.or_assoc, not_node, not_node] at hc4
  exact ⟨by rw [endsErr, if_neg (by simp [h0]), if_pos hc4]; rfl, H.below⟩
 rw [Bool.or_assoc, not_node, not_node] at hc4
 refine Y.k <| Y.q <| Y.qr <| Y.v (Y.m rfl) <| Y.v (Y.m rfl) <| Y.v (Ev.eql rfl rfl) <| Y.z ?_
 refine WP.cond rfl (fun hc6 => ?_) (fun hc6 => ?_)
 ·refine Y.qr <| Y.v (Ev.asI rfl) <| Y.z ?_
  refine WP.ret ⟨_, rfl, ?_⟩
  exact ⟨by rw [endsErr, if_neg (by simp [h0]), if_neg (by simp [hc4]), if_pos (by simpa using hc6)]; rfl, H.below⟩
 refine Y.k <| Y.qr <| Y.v (Ev.asI rfl) <| Y.z ?_
 refine WP.ret ⟨_, rfl, ?_⟩
 exact ⟨by rw [endsErr, if_neg (by simp [h0]), if_neg (by simp [hc4]), if_neg (by simpa using hc6)]; rfl, H.below⟩
end Go.Proofs.Ytgjfjbphngamgaa.Flo

/-
 Walk: the reference's cheap.
-/
set_option linter.all false
namespace Go.Proofs.Ytgjfjbphngamgaa.Flo
open Go Go.W Go.RowKit
theorem BFI.bds {l : List Arc} {on : List Int} {n s : Nat} {K : Nat → Bool} {D : Nat → Int} {rk : Nat → Int} {r : Int} {Pr : Nat → Bool → Prop} {d stp : List Int} {fin : List Bool} {T : Nat → Int} (h : BFI l on n s K D rk r Pr d stp fin T) (hS : SP l on n s K D rk) (hn : n ≤ 64) {v : Nat} (hv : v < n) : -10000000 ≤ dAt d v ∧ dAt d v ≤ 1099511627776 := by
 cases hk : K v with
 | true =>
  have h1 := h.lo v hv hk
  have h2 := hS.bd v hv hk
  unfold farI at h1; omega
 | false => rw [h.unk v hv hk]; unfold farI; omega
set_option maxHeartbeats 1000000 in
theorem refCheap (n s : Nat) (A B : Option Addr) (l : List Arc) (on : List Int) (cap cap2 : Nat) (K : Nat → Bool) (D : Nat → Int) (rk : Nat → Int) (w0 : World) (hN : NetOk n l) (hs : s < n) (hV : VFlow l on) (hz : ArcsAt w0 A l) (ho : IntsAt w0 B on) (hS : SP l on n s K D rk) :
  Calls Try.prog 64 #[.agg #[I n, .slice A l.length cap], .slice B on.length cap2, I s] w0 fun e w' => ∃ (gd gs : Nat) (d stp : List Int) (T : Nat → Int), e = .returned (.tuple #[.slice (some ⟨gd, 0, none⟩) n n, .slice (some ⟨gs, 0, none⟩) n n]) ∧ CR l on n s K D T d stp ∧ SH w0 [] w' [⟨gd, 3, d.map I⟩, ⟨gs, 3, stp.map I⟩] := by
 have H := SH.refl w0
 have hn2 := hN.n2
 have hll := hN.len
 have hol := hV.len
 refine Calls.ofWP Try.func64 rfl Try.results64 Try.ntmps64 rfl <| Y.qr <| Y.bx (cA rfl) H ?_
 clear H; intro g3 w H
 refine Y.v (Ev.asS rfl) <| Y.v (Ev.asS rfl) <| Y.z <| Y.q ?_
 refine WP.rheldC [8, 9, 14, 15, 16, 17, 18, 19] (fun u w' => ∃ gd gs : Nat, u 8 = .slice (some ⟨gd, 0, none⟩) n n ∧ u 9 = .slice (some ⟨gs, 0, none⟩) n n ∧ SH w0 [] w' [⟨gd, 3, (List.replicate n 0).map I⟩, ⟨gs, 3, (List.replicate n 0).map I⟩, ⟨g3, 76, [I n, .slice A l.length cap]⟩]) mixed H ?_ ?_
 ·clear H; intro w hbw1 H
  refine Y.t 0 H rfl rfl (fun w H => Y.f rfl rfl) <| Y.t 1 H rfl rfl (fun w H => Y.l H 0 rfl rfl rfl) <| Y.t 3 H rfl rfl (fun w H => Y.f rfl rfl) <| Y.t 4 H rfl rfl (fun w H => Y.l H 0 rfl rfl rfl) ?_
  refine Y.A [2, 5] rfl ⟨⟨_, rfl, ?_⟩, ⟨_, rfl, ?_⟩, trivial⟩
  ·refine OPS.makeSlice rfl rfl rfl rfl (sl_run rfl) rfl rfl rfl (by omega) (by omega) H ?_
   clear H; intro g16 w H
   refine Y.z <| ⟨(H.drop (List.sublist_cons_self _ _)), ?_⟩
   refine Y.t 6 (H.drop (List.sublist_cons_self _ _)) rfl rfl (fun w H => Ev.asS rfl) ?_
   refine Y.A [5] rfl ⟨⟨_, rfl, ?_⟩, trivial⟩
   refine OPS.makeSlice rfl rfl rfl rfl (sl_run rfl) rfl rfl rfl (by omega) (by omega) H ?_
   clear H; intro g19 w H
   refine Y.z <| ⟨(H.drop ((List.sublist_cons_self _ _).trans (List.sublist_cons_self _ _))), ?_⟩
   refine Y.t 7 (H.drop ((List.sublist_cons_self _ _).trans (List.sublist_cons_self _ _))) rfl rfl (fun w H => Ev.asS rfl) <| OPH.done (by kernel_rfl) ?_
   refine ⟨(by repeat (first | exact Agree.refl _ _ | exact Agree.mix _ _ _ | refine Agree.upd rfl ?_ | refine Agree.mix2 rfl ?_)), g16, g19, rfl, rfl, ?_⟩; rw [← mkL_ones]; exact H.reidx [1, 0, 2] (by decide) rfl
  ·refine OPS.makeSlice rfl rfl rfl rfl (sl_run rfl) rfl rfl rfl (by omega) (by omega) H ?_
   clear H; intro g19 w H
   refine Y.z <| ⟨(H.drop (List.sublist_cons_self _ _)), ?_⟩
   refine Y.A [2] rfl ⟨⟨_, rfl, ?_⟩, trivial⟩
   refine OPS.makeSlice rfl rfl rfl rfl (sl_run rfl) rfl rfl rfl (by omega) (by omega) H ?_
   clear H; intro g16 w H
   refine Y.z <| ⟨(H.drop ((List.sublist_cons_self _ _).trans (List.sublist_cons_self _ _))), ?_⟩
   refine Y.t 6 (H.drop ((List.sublist_cons_self _ _).trans (List.sublist_cons_self _ _))) rfl rfl (fun w H => Ev.asS rfl) <| Y.t 7 (H.drop ((List.sublist_cons_self _ _).trans (List.sublist_cons_self _ _))) rfl rfl (fun w H => Ev.asS rfl) <| OPH.done (by kernel_rfl) ?_
   refine ⟨(by repeat (first | exact Agree.refl _ _ | exact Agree.mix _ _ _ | refine Agree.upd rfl ?_ | refine Agree.mix2 rfl ?_)), g16, g19, rfl, rfl, ?_⟩; rw [← mkL_ones]; exact H
 clear H
 rintro u w ⟨gd, gs, h8, h9, H⟩
 refine WP.know (t := 8) h8 (WP.know (t := 9) h9 ?_)
 have hfl : (List.replicate n farI).length = (List.replicate n (0 : Int)).length := by simp
 refine Y.q <| Y.qr <| Y.v (Ev.asI rfl) <| Y.z <| WP.block <| WP.loop [10, 20, 21, 22, 23, 24, 25, 26, 27, 28] (fun k e w' => ∃ v : Nat, v + k = n ∧ e 10 = I v ∧ SH w0 [] w' [⟨gd, 3, (mixL (List.replicate n farI) (List.replicate n 0) v).map I⟩, ⟨gs, 3, (List.replicate n 0).map I⟩, ⟨g3, 76, [I n, .slice A l.length cap]⟩]) (n) (⟨0, by omega, rfl, by rw [mixL_zero]; exact H⟩) ?_
 clear H
 rintro k u w ⟨v, hk, h10, H⟩
 refine WP.know (t := 10) h10 <| Y.q <| Y.qr <| Y.v (Y.m rfl) <| Y.v (Y.f rfl rfl) <| Y.v (Y.l H 2 rfl rfl rfl) <| Y.v (Ev.lss rfl rfl) <| Y.z ?_
 refine WP.cond rfl (fun hc3 => ?_) (fun hc3 => ?_)
 ·have hvn : v < n := by simp at hc3; omega
  have hml : (mixL (List.replicate n farI) (List.replicate n 0) v).length = n := by rw [mixL_length hfl (by simp; omega)]; simp
  have hms := mixL_set (m := List.replicate n (0 : Int)) hfl (show v < (List.replicate n farI).length by simpa using hvn)
  rw [List.getElem_replicate] at hms
  refine Y.k <| Y.q <| WP.block <| Y.r <| Y.v (Ev.mvS rfl) <| Y.v (Y.m rfl) <| Y.v (Y.x rfl rfl rfl rfl) ?_
  have hpu : putL ((mixL (List.replicate n farI) (List.replicate n 0) v).map I) (0 + v) [I farI] = (mixL (List.replicate n farI) (List.replicate n 0) (v + 1)).map I := by rw [Nat.zero_add, putL_ones, hms]
  refine OPS.store (vs := [I farI]) 0 _ rfl rfl rfl (size_run rfl) rfl (cI rfl) rfl rfl H rfl (by simp only [List.length_map, hml]; omega) ?_
  clear H; intro w H
  simp only [List.set_cons_zero, List.set_cons_succ] at H
  rw [hpu] at H
  refine Y.z <| Y.r <| Y.v (Y.m rfl) <| Y.v (Y.p rfl rfl) <| Y.v (Ev.asI rfl) <| Y.z ?_
  exact ⟨(by repeat (first | exact Agree.refl _ _ | exact Agree.mix _ _ _ | refine Agree.upd rfl ?_ | refine Agree.mix2 rfl ?_)), k - 1, by omega, v + 1, by omega, rfl, H⟩
 have hvn : v = n := by simp at hc3; omega
 have hma : mixL (List.replicate n farI) (List.replicate n 0) n = List.replicate n farI := by
  have h := mixL_all hfl
  rw [List.length_replicate] at h; exact h
 rw [hvn, hma] at H
 refine WP.exit <| XB.hit <| Y.qr <| Y.v (Ev.mvS rfl) <| Y.v (Y.m rfl) <| Y.v (Y.x rfl rfl rfl rfl) ?_
 have hpu : putL ((List.replicate n farI).map I) (0 + s) [I 0] = ((List.replicate n farI).set s 0).map I := by rw [Nat.zero_add, putL_ones]
 refine OPS.store (vs := [I 0]) 0 _ rfl rfl rfl (size_run rfl) rfl (cI rfl) rfl rfl H rfl (by simp; omega) ?_
 clear H; intro w H
 simp only [List.set_cons_zero, List.set_cons_succ] at H
 rw [hpu] at H
 refine Y.z <| Y.q <| Y.qr <| Y.v (Ev.asI rfl) <| Y.z <| WP.block <| WP.loop [11, 12, 13, 32, 33, 34, 35, 36, 37, 38, 39, 40, 41, 42, 43, 44, 45, 46, 47, 48, 49, 50, 51, 52, 53, 54, 55, 56, 57, 58, 59, 60, 61, 62, 63, 64, 65, 66, 67, 68, 69, 70, 71, 72, 73, 74, 75, 76, 77, 78, 79, 80, 81, 82, 83, 84, 85, 86, 87, 88, 89, 90, 91, 92, 93, 94, 95, 96, 97, 98, 99, 100, 101, 102, 103, 104, 105, 106, 107, 108, 109, 110, 111, 112, 113, 114, 115, 116, 117, 118, 119, 120, 121, 122, 123, 124, 125, 126, 127, 128, 129, 130, 131, 132, 133, 134, 135, 136, 137, 138, 139, 140, 141, 142, 143, 144, 145, 146] (fun k e w' => ∃ (r : Nat) (d stp : List Int) (fin : List Bool) (T : Nat → Int), r + k = n ∧ e 11 = I r ∧ SH w0 [] w' [⟨gd, 3, d.map I⟩, ⟨gs, 3, stp.map I⟩, ⟨g3, 76, [I n, .slice A l.length cap]⟩] ∧ BFI l on n s K D rk r (fun i _ => i < 0) d stp fin T) (n) (⟨0, _, _, _, _, by omega, rfl, H, (BFI.init hS hn2 hs).mono fun _ _ _ _ _ _ _ h => absurd h (by omega)⟩) ?_
 clear H
 rintro k u w ⟨r, d, stp, fin, T, hk, h11, H, hB⟩
 refine WP.know (t := 11) h11 <| Y.q <| Y.qr <| Y.v (Y.m rfl) <| Y.v (Y.f rfl rfl) <| Y.v (Y.l H 2 rfl rfl rfl) <| Y.v (Ev.lss rfl rfl) <| Y.z ?_
 refine WP.cond rfl (fun hc8 => ?_) (fun hc8 => ?_)
 ·have hrn : r < n := by simp at hc8; omega
  refine Y.k <| Y.q <| WP.block <| Y.qr <| Y.v (Ev.asI rfl) <| Y.z <| WP.block <| WP.loop [12, 13, 38, 39, 40, 41, 42, 43, 44, 45, 46, 47, 48, 49, 50, 51, 52, 53, 54, 55, 56, 57, 58, 59, 60, 61, 62, 63, 64, 65, 66, 67, 68, 69, 70, 71, 72, 73, 74, 75, 76, 77, 78, 79, 80, 81, 82, 83, 84, 85, 86, 87, 88, 89, 90, 91, 92, 93, 94, 95, 96, 97, 98, 99, 100, 101, 102, 103, 104, 105, 106, 107, 108, 109, 110, 111, 112, 113, 114, 115, 116, 117, 118, 119, 120, 121, 122, 123, 124, 125, 126, 127, 128, 129, 130, 131, 132, 133, 134, 135, 136, 137, 138, 139, 140, 141, 142, 143, 144, 145, 146] (fun k2 e w' => ∃ (j : Nat) (d stp : List Int) (fin : List Bool) (T : Nat → Int), j + k2 = l.length ∧ e 12 = I j ∧ SH w0 [] w' [⟨gd, 3, d.map I⟩, ⟨gs, 3, stp.map I⟩, ⟨g3, 76, [I n, .slice A l.length cap]⟩] ∧ BFI l on n s K D rk r (fun i _ => i < j) d stp fin T) (l.length) (⟨0, d, stp, fin, T, by omega, rfl, H, hB⟩) ?_
  clear H hB
  rintro k2 u2 w ⟨j, d, stp, fin, T, hk2, h12, H, hB⟩
  refine WP.know (t := 12) h12 <| Y.q <| Y.qr <| Y.v (Y.m rfl) <| Y.v (Y.f rfl rfl) <| Y.v (Y.l H 2 rfl rfl rfl) <| Y.v (Y.n rfl) <| Y.v (Ev.lss rfl rfl) <| Y.z ?_
  refine WP.cond rfl (fun hc11 => ?_) (fun hc11 => ?_)
  ·have hlt : j < l.length := by simp at hc11; omega
   have hlt2 : j < on.length := by omega
   obtain ⟨b, o, rfl, hc⟩ := hz j hlt
   obtain ⟨b2, o2, rfl, hx⟩ := ho j hlt2
   have hc' := cellsAt_sh H hc
   have h2 := hN.caps l[j] (List.getElem_mem _)
   obtain ⟨a, b', ham, hbm, hfa, htb, eF, eB⟩ := redge_of (on := on) hN.nodes hlt hlt2 p0
   rw [rc_p0] at eF eB
   refine Y.k <| Y.q <| WP.block <| Y.qr <| Y.v (Y.f rfl rfl) <| Y.v (Y.l H 2 rfl rfl rfl) <| Y.v (Y.m rfl) <| Y.v (Y.X rfl rfl rfl rfl rfl) <| Y.v (by (change Ev _ _ _ _ (Op.load 96 (Operand.tmp 48)) _; exact Ev.loadN (arcCells l[j]) (agg_run rfl) (size_run rfl) rfl hc')) <| Y.al H rfl rfl ?_
   clear H; intro g13 w H
   refine OPS.store 0 _ rfl rfl rfl (size_run rfl) rfl (cA rfl) rfl rfl H rfl (by simp) ?_
   clear H; intro w H; try simp only [List.set_cons_zero, List.set_cons_succ, putL, Nat.zero_add] at H
   refine Y.z <| Y.q <| Y.q ?_
   rw [show arcCells l[j] = [I a, I b', I l[j].cap, I l[j].cost] from by unfold arcCells; rw [hfa, htb]] at H
   have hdl := hB.dlen
   have hsl := hB.stlen
   have hda : dAt d a = d[a]'(by omega) := by simp [dAt, hdl, ham]
   have hdb : dAt d b' = d[b']'(by omega) := by simp [dAt, hdl, hbm]
   have hba := hB.bds hS hn2 ham
   have hbb := hB.bds hS hn2 hbm
   rw [hda] at hba
   rw [hdb] at hbb
   refine WP.rstill mixed (by kernel_rfl) H ?_
   clear H; intro w hbw14 H
   obtain ⟨_, _, e1, hxa⟩ := onesOwn H 1 rfl a (by omega)
   cases e1
   obtain ⟨_, _, e1, hxb⟩ := onesOwn H 1 rfl b' (by omega)
   cases e1
   refine Y.v (Ev.mvS rfl) <| Y.v (Y.m rfl) <| Y.v (Y.x rfl rfl rfl rfl) <| Y.v (Y.c (H.ld0 (by assumption)) rfl) ?_
   refine Y.v (Y.f rfl rfl) <| Y.v (Y.l H 0 rfl rfl rfl) <| Y.v (Ev.lss rfl rfl) <| Y.v (Ev.mvB rfl) <| Y.g rfl rfl (fun hg => Ev.mvS rfl) <| Y.g rfl rfl (fun hg => Y.f rfl rfl) <| Y.g rfl rfl (fun hg => Ev.load1 (agg_run rfl) (gvE hg rfl) (H.ldL 0 rfl _ rfl)) <| Y.g rfl rfl (fun hg => Ev.indexAddr1 (el_run rfl) (size_run rfl) (gvE hg rfl) (gvE hg rfl) rfl (by omega)) <| Y.g rfl rfl (fun hg => Ev.load1 (agg_run rfl) (gvE hg rfl) (by assumption)) ?_
   refine Y.g rfl rfl (fun hg => Ev.lss (gvE hg rfl) rfl) <| Y.v (Ev.pickAnd rfl rfl rfl) <| Y.v (Ev.mvB rfl) <| Y.g rfl rfl (fun hg => Ev.mvS rfl) <| Y.g rfl rfl (fun hg => Y.f rfl rfl) <| Y.g rfl rfl (fun hg => Ev.load1 (agg_run rfl) (gvE hg rfl) (H.ldL 0 rfl _ rfl)) <| Y.g rfl rfl (fun hg => Ev.indexAddr1 (el_run rfl) (size_run rfl) (gvE hg rfl) (gvE hg rfl) rfl (by omega)) <| Y.g rfl rfl (fun hg => Ev.load1 (agg_run rfl) (gvE hg rfl) (by assumption)) ?_
   refine Y.g rfl rfl (fun hg => Y.f rfl rfl) <| Y.g rfl rfl (fun hg => Ev.load1 (agg_run rfl) (gvE hg rfl) (H.ldL 0 rfl _ rfl)) <| Y.g rfl rfl (fun hg => Ev.add (gvE hg rfl) (gvE hg rfl) (by unfold fits; omega)) <| Y.g rfl rfl (fun hg => Ev.mvS rfl) <| Y.g rfl rfl (fun hg => Y.f rfl rfl) <| Y.g rfl rfl (fun hg => Ev.load1 (agg_run rfl) (gvE hg rfl) (H.ldL 0 rfl _ rfl)) <| Y.g rfl rfl (fun hg => Ev.indexAddr1 (el_run rfl) (size_run rfl) (gvE hg rfl) (gvE hg rfl) rfl (by omega)) <| Y.g rfl rfl (fun hg => Ev.load1 (agg_run rfl) (gvE hg rfl) (by assumption)) ?_
   refine Y.g rfl rfl (fun hg => Ev.lss (gvE hg rfl) (gvE hg rfl)) <| Y.v (Ev.pickAnd rfl rfl rfl) <| OPS.nil_s ?_
   refine WP.cut [81, 82, 83, 84, 85, 86, 87, 88, 89, 90, 91, 92, 93, 94, 95, 96, 97, 98] (fun _ w' => ∃ (d stp : List Int) (fin : List Bool) (T : Nat → Int), SH w0 [] w' [⟨g13, 96, [I a, I b', I l[j].cap, I l[j].cost]⟩, ⟨gd, 3, d.map I⟩, ⟨gs, 3, stp.map I⟩, ⟨g3, 76, [I n, .slice (some ⟨b, o, none⟩) l.length cap]⟩] ∧ BFI l on n s K D rk r (fun i fw => i < j ∨ (i = j ∧ fw = true)) d stp fin T) ?_ ?_
   ·refine WP.cond rfl (fun hc14 => ?_) (fun hc14 => ?_)
    ·simp only [Bool.and_eq_true, decide_eq_true_eq] at hc14
     obtain ⟨⟨q1, q2⟩, q3⟩ := hc14
     obtain ⟨fin', T', hB2⟩ := hB.relax hS hn2 (eF q1) ham hbm (by rw [hda]; exact q2) (by rw [hda, hdb]; exact q3)
     rw [hda] at hB2
     have Hf := H
     replace H := H.reidx (L' := [⟨g13, 96, [I a, I b', I l[j].cap, I l[j].cost]⟩, ⟨g3, 76, [I n, .slice (some ⟨b, o, none⟩) l.length cap]⟩]) [0, 3] (by decide) rfl
     have hpu1 : putL (d.map I) (0 + b') [I (d[a] + l[j].cost)] = (d.set b' (d[a] + l[j].cost)).map I := by rw [Nat.zero_add, putL_ones]
     have hpu2 : putL (stp.map I) (0 + b') [I ((j : Int) + 1)] = (stp.set b' ((j : Int) + 1)).map I := by rw [Nat.zero_add, putL_ones]
     refine WP.rheldC [81, 82, 83, 84, 85, 86, 87, 88, 89, 90, 91, 92, 93, 94, 95, 96, 97, 98] (fun _ w' => SH w0 [] w' [⟨g13, 96, [I a, I b', I l[j].cap, I l[j].cost]⟩, ⟨gd, 3, (d.set b' (d[a] + l[j].cost)).map I⟩, ⟨gs, 3, (stp.set b' ((j : Int) + 1)).map I⟩, ⟨g3, 76, [I n, .slice (some ⟨b, o, none⟩) l.length cap]⟩]) mixed H ?_ ?_
     ·clear H; intro w hbw15 H
      refine Y.t 0 H rfl rfl (fun w H => Ev.mvS rfl) <| Y.t 1 H rfl rfl (fun w H => Y.f rfl rfl) <| Y.t 2 H rfl rfl (fun w H => Y.l H 0 rfl rfl rfl) <| Y.t 3 H rfl rfl (fun w H => Ev.mvS rfl) <| Y.t 4 H rfl rfl (fun w H => Y.f rfl rfl) <| Y.t 5 H rfl rfl (fun w H => Y.l H 0 rfl rfl rfl) <| Y.t 6 H rfl rfl (fun w H => Ev.mvS rfl) <| Y.t 7 H rfl rfl (fun w H => Y.f rfl rfl) <| Y.t 8 H rfl rfl (fun w H => Y.l H 0 rfl rfl rfl) <| Y.t 9 H rfl rfl (fun w H => Y.x rfl rfl rfl rfl) <| Y.t 11 H rfl rfl (fun w H => Y.f rfl rfl) <| Y.t 12 H rfl rfl (fun w H => Y.l H 0 rfl rfl rfl) <| Y.t 14 H rfl rfl (fun w H => Y.m rfl) <| Y.t 15 H rfl rfl (fun w H => Y.p rfl rfl) ?_
      refine Y.A [10] rfl ⟨⟨_, rfl, ?_⟩, trivial⟩
      try replace Hf := Hf.toBelow hbw15
      have hxa2 := (onesOwn Hf 1 rfl).atK (show a < d.length by omega)
      refine Y.v (Y.c hxa2 rfl) <| Y.z <| ⟨(H), ?_⟩
      refine Y.t 13 H rfl rfl (fun w H => Y.p rfl rfl) <| Y.t 16 H rfl rfl (fun w H => Y.x rfl rfl rfl rfl) ?_
      refine Y.A [17] rfl ⟨⟨_, rfl, ?_⟩, trivial⟩
      try replace Hf := Hf.toBelow hbw15
      refine OPS.store (vs := [I (d[a] + l[j].cost)]) 1 _ rfl rfl rfl (size_run rfl) rfl (cI rfl) rfl rfl Hf rfl (by simp only [List.length_map]; omega) ?_
      clear H Hf; intro w Hf
      simp only [List.set_cons_zero, List.set_cons_succ] at Hf
      rw [hpu1] at Hf
      have H := Hf.reidx (L' := [⟨g13, 96, [I a, I b', I l[j].cap, I l[j].cost]⟩, ⟨g3, 76, [I n, .slice (some ⟨b, o, none⟩) l.length cap]⟩]) [0, 3] (by decide) rfl
      refine Y.z <| ⟨(H), ?_⟩
      refine Y.t 18 H rfl rfl (fun w H => Y.x rfl rfl rfl rfl) ?_
      refine Y.A [19] rfl ⟨⟨_, rfl, ?_⟩, trivial⟩
      try replace Hf := Hf.toBelow hbw15
      refine OPS.store (vs := [I ((j : Int) + 1)]) 2 _ rfl rfl rfl (size_run rfl) rfl (cI rfl) rfl rfl Hf rfl (by simp only [List.length_map]; omega) ?_
      clear H Hf; intro w Hf
      simp only [List.set_cons_zero, List.set_cons_succ] at Hf
      rw [hpu2] at Hf
      have H := Hf.reidx (L' := [⟨g13, 96, [I a, I b', I l[j].cap, I l[j].cost]⟩, ⟨g3, 76, [I n, .slice (some ⟨b, o, none⟩) l.length cap]⟩]) [0, 3] (by decide) rfl
      refine Y.z <| ⟨(H), ?_⟩
      refine OPH.done (by kernel_rfl) ?_
      exact ⟨(by repeat (first | exact Agree.refl _ _ | exact Agree.mix _ _ _ | refine Agree.upd rfl ?_ | refine Agree.mix2 rfl ?_)), Hf⟩
     clear H
     rintro u4 w H
     have hnx : ∃ (d stp : List Int) (fin : List Bool) (T : Nat → Int), SH w0 [] w [⟨g13, 96, [I a, I b', I l[j].cap, I l[j].cost]⟩, ⟨gd, 3, d.map I⟩, ⟨gs, 3, stp.map I⟩, ⟨g3, 76, [I n, .slice (some ⟨b, o, none⟩) l.length cap]⟩] ∧ BFI l on n s K D rk r (fun i fw => i < j ∨ (i = j ∧ fw = true)) d stp fin T := ⟨_, _, fin', T', H, hB2⟩
     exact ⟨(by repeat (first | exact Agree.refl _ _ | exact Agree.mix _ _ _ | refine Agree.upd rfl ?_ | refine Agree.mix2 rfl ?_)), hnx⟩
    have hno : on[j] < l[j].cap → ¬ (dAt d a < farI ∧ dAt d a + l[j].cost < dAt d b') := by
     rw [hda, hdb]
     rintro q1 ⟨q2, q3⟩
     have q2 : d[a] < 1099511627776 := q2
     simp [q1, q2] at hc14; omega
    have hnx : ∃ (d stp : List Int) (fin : List Bool) (T : Nat → Int), SH w0 [] w [⟨g13, 96, [I a, I b', I l[j].cap, I l[j].cost]⟩, ⟨gd, 3, d.map I⟩, ⟨gs, 3, stp.map I⟩, ⟨g3, 76, [I n, .slice (some ⟨b, o, none⟩) l.length cap]⟩] ∧ BFI l on n s K D rk r (fun i fw => i < j ∨ (i = j ∧ fw = true)) d stp fin T := by
     refine ⟨d, stp, fin, T, H, ?_⟩
     by_cases hlc : on[j] < l[j].cap
     ·exact hB.keep hn2 hS (eF hlc) (hno hlc)
     ·exact hB.mono fun i f u v r w hE hp => by
       rcases hp with hp | ⟨rfl, rfl⟩
       ·exact hp
       ·obtain ⟨_, _, q, _⟩ := hE; exact absurd (q rfl).2.2.2.1 hlc
    refine Y.k ?_
    exact ⟨(by repeat (first | exact Agree.refl _ _ | exact Agree.mix _ _ _ | refine Agree.upd rfl ?_ | refine Agree.mix2 rfl ?_)), hnx⟩
   clear H hB
   rintro u3 w ⟨d, stp, fin, T, H, hB⟩
   have hdl := hB.dlen
   have hsl := hB.stlen
   have hda : dAt d a = d[a]'(by omega) := by simp [dAt, hdl, ham]
   have hdb : dAt d b' = d[b']'(by omega) := by simp [dAt, hdl, hbm]
   have hba := hB.bds hS hn2 ham
   have hbb := hB.bds hS hn2 hbm
   rw [hda] at hba
   rw [hdb] at hbb
   refine Y.q <| WP.rstill mixed (by kernel_rfl) H ?_
   clear H; intro w hbw16 H
   obtain ⟨_, _, e1, hxa⟩ := onesOwn H 1 rfl a (by omega)
   cases e1
   obtain ⟨_, _, e1, hxb⟩ := onesOwn H 1 rfl b' (by omega)
   cases e1
   refine Y.v (Ev.mvS rfl) <| Y.v (Y.m rfl) <| Y.v (Y.x rfl rfl rfl rfl) <| Y.v (Y.c (H.ld0 (by assumption)) rfl) ?_
   refine Y.v (Ev.gtr rfl rfl) <| Y.v (Ev.mvB rfl) <| Y.g rfl rfl (fun hg => Ev.mvS rfl) <| Y.g rfl rfl (fun hg => Y.f rfl rfl) <| Y.g rfl rfl (fun hg => Ev.load1 (agg_run rfl) (gvE hg rfl) (H.ldL 0 rfl _ rfl)) <| Y.g rfl rfl (fun hg => Ev.indexAddr1 (el_run rfl) (size_run rfl) (gvE hg rfl) (gvE hg rfl) rfl (by omega)) <| Y.g rfl rfl (fun hg => Ev.load1 (agg_run rfl) (gvE hg rfl) (by assumption)) ?_
   refine Y.g rfl rfl (fun hg => Ev.lss (gvE hg rfl) rfl) <| Y.v (Ev.pickAnd rfl rfl rfl) <| Y.v (Ev.mvB rfl) <| Y.g rfl rfl (fun hg => Ev.mvS rfl) <| Y.g rfl rfl (fun hg => Y.f rfl rfl) <| Y.g rfl rfl (fun hg => Ev.load1 (agg_run rfl) (gvE hg rfl) (H.ldL 0 rfl _ rfl)) <| Y.g rfl rfl (fun hg => Ev.indexAddr1 (el_run rfl) (size_run rfl) (gvE hg rfl) (gvE hg rfl) rfl (by omega)) <| Y.g rfl rfl (fun hg => Ev.load1 (agg_run rfl) (gvE hg rfl) (by assumption)) ?_
   refine Y.g rfl rfl (fun hg => Y.f rfl rfl) <| Y.g rfl rfl (fun hg => Ev.load1 (agg_run rfl) (gvE hg rfl) (H.ldL 0 rfl _ rfl)) <| Y.g rfl rfl (fun hg => Ev.sub (gvE hg rfl) (gvE hg rfl) (by unfold fits; omega)) <| Y.g rfl rfl (fun hg => Ev.mvS rfl) <| Y.g rfl rfl (fun hg => Y.f rfl rfl) <| Y.g rfl rfl (fun hg => Ev.load1 (agg_run rfl) (gvE hg rfl) (H.ldL 0 rfl _ rfl)) <| Y.g rfl rfl (fun hg => Ev.indexAddr1 (el_run rfl) (size_run rfl) (gvE hg rfl) (gvE hg rfl) rfl (by omega)) <| Y.g rfl rfl (fun hg => Ev.load1 (agg_run rfl) (gvE hg rfl) (by assumption)) ?_
   refine Y.g rfl rfl (fun hg => Ev.lss (gvE hg rfl) (gvE hg rfl)) <| Y.v (Ev.pickAnd rfl rfl rfl) <| OPS.nil_s ?_
   refine WP.cond rfl (fun hc16 => ?_) (fun hc16 => ?_)
   ·simp only [Bool.and_eq_true, decide_eq_true_eq] at hc16
    obtain ⟨⟨q1, q2⟩, q3⟩ := hc16
    obtain ⟨fin', T', hB2⟩ := hB.relax hS hn2 (eB q1) hbm ham (by rw [hdb]; exact q2) (by rw [hda, hdb]; omega)
    rw [hdb] at hB2
    have Hf := H
    replace H := H.reidx (L' := [⟨g13, 96, [I a, I b', I l[j].cap, I l[j].cost]⟩, ⟨g3, 76, [I n, .slice (some ⟨b, o, none⟩) l.length cap]⟩]) [0, 3] (by decide) rfl
    have hpu1 : putL (d.map I) (0 + a) [I (d[b'] - l[j].cost)] = (d.set a (d[b'] + -l[j].cost)).map I := by rw [Nat.zero_add, putL_ones]; rfl
    have hpu2 : putL (stp.map I) (0 + a) [I (-(j : Int) - 1)] = (stp.set a (-(j : Int) - 1)).map I := by rw [Nat.zero_add, putL_ones]
    refine WP.rheldC [128, 129, 130, 131, 132, 133, 134, 135, 136, 137, 138, 139, 140, 141, 142, 143, 144, 145, 146] (fun _ w' => SH w0 [] w' [⟨g13, 96, [I a, I b', I l[j].cap, I l[j].cost]⟩, ⟨gd, 3, (d.set a (d[b'] + -l[j].cost)).map I⟩, ⟨gs, 3, (stp.set a (-(j : Int) - 1)).map I⟩, ⟨g3, 76, [I n, .slice (some ⟨b, o, none⟩) l.length cap]⟩]) mixed H ?_ ?_
    ·clear H; intro w hbw17 H
     refine Y.t 0 H rfl rfl (fun w H => Ev.mvS rfl) <| Y.t 1 H rfl rfl (fun w H => Y.f rfl rfl) <| Y.t 2 H rfl rfl (fun w H => Y.l H 0 rfl rfl rfl) <| Y.t 3 H rfl rfl (fun w H => Ev.mvS rfl) <| Y.t 4 H rfl rfl (fun w H => Y.f rfl rfl) <| Y.t 5 H rfl rfl (fun w H => Y.l H 0 rfl rfl rfl) <| Y.t 6 H rfl rfl (fun w H => Ev.mvS rfl) <| Y.t 7 H rfl rfl (fun w H => Y.f rfl rfl) <| Y.t 8 H rfl rfl (fun w H => Y.l H 0 rfl rfl rfl) <| Y.t 9 H rfl rfl (fun w H => Y.x rfl rfl rfl rfl) <| Y.t 11 H rfl rfl (fun w H => Y.f rfl rfl) <| Y.t 12 H rfl rfl (fun w H => Y.l H 0 rfl rfl rfl) <| Y.t 14 H rfl rfl (fun w H => Y.m rfl) <| Y.t 15 H rfl rfl (fun w H => Ev.neg rfl (by unfold fits; omega)) <| Y.t 16 H rfl rfl (fun w H => Y.s rfl rfl) ?_
     refine Y.A [10] rfl ⟨⟨_, rfl, ?_⟩, trivial⟩
     try replace Hf := Hf.toBelow hbw17
     have hxb2 := (onesOwn Hf 1 rfl).atK (show b' < d.length by omega)
     refine Y.v (Y.c hxb2 rfl) <| Y.z <| ⟨(H), ?_⟩
     refine Y.t 13 H rfl rfl (fun w H => Y.s rfl rfl) <| Y.t 17 H rfl rfl (fun w H => Y.x rfl rfl rfl rfl) ?_
     refine Y.A [18] rfl ⟨⟨_, rfl, ?_⟩, trivial⟩
     try replace Hf := Hf.toBelow hbw17
     refine OPS.store (vs := [I (d[b'] - l[j].cost)]) 1 _ rfl rfl rfl (size_run rfl) rfl (cI rfl) rfl rfl Hf rfl (by simp only [List.length_map]; omega) ?_
     clear H Hf; intro w Hf
     simp only [List.set_cons_zero, List.set_cons_succ] at Hf
     rw [hpu1] at Hf
     have H := Hf.reidx (L' := [⟨g13, 96, [I a, I b', I l[j].cap, I l[j].cost]⟩, ⟨g3, 76, [I n, .slice (some ⟨b, o, none⟩) l.length cap]⟩]) [0, 3] (by decide) rfl
     refine Y.z <| ⟨(H), ?_⟩
     refine Y.t 19 H rfl rfl (fun w H => Y.x rfl rfl rfl rfl) ?_
     refine Y.A [20] rfl ⟨⟨_, rfl, ?_⟩, trivial⟩
     try replace Hf := Hf.toBelow hbw17
     refine OPS.store (vs := [I (-(j : Int) - 1)]) 2 _ rfl rfl rfl (size_run rfl) rfl (cI rfl) rfl rfl Hf rfl (by simp only [List.length_map]; omega) ?_
     clear H Hf; intro w Hf
     simp only [List.set_cons_zero, List.set_cons_succ] at Hf
     rw [hpu2] at Hf
     have H := Hf.reidx (L' := [⟨g13, 96, [I a, I b', I l[j].cap, I l[j].cost]⟩, ⟨g3, 76, [I n, .slice (some ⟨b, o, none⟩) l.length cap]⟩]) [0, 3] (by decide) rfl
     refine Y.z <| ⟨(H), ?_⟩
     refine OPH.done (by kernel_rfl) ?_
     exact ⟨(by repeat (first | exact Agree.refl _ _ | exact Agree.mix _ _ _ | refine Agree.upd rfl ?_ | refine Agree.mix2 rfl ?_)), Hf⟩
    clear H
    rintro u4 w H
    have hnx : ∃ (d stp : List Int) (fin : List Bool) (T : Nat → Int), SH w0 [] w [⟨g13, 96, [I a, I b', I l[j].cap, I l[j].cost]⟩, ⟨gd, 3, d.map I⟩, ⟨gs, 3, stp.map I⟩, ⟨g3, 76, [I n, .slice (some ⟨b, o, none⟩) l.length cap]⟩] ∧ BFI l on n s K D rk r (fun i _ => i < j + 1) d stp fin T := by
     refine ⟨_, _, fin', T', H, hB2.mono fun i f u v r w _ hp => ?_⟩
     rcases Nat.lt_succ_iff_lt_or_eq.1 hp with hp | rfl
     ·exact .inl (.inl hp)
     ·cases f with
      | true => exact .inl (.inr ⟨rfl, rfl⟩)
      | false => exact .inr ⟨rfl, rfl⟩
    refine Y.r <| Y.v (Y.m rfl) <| Y.v (Y.p rfl rfl) <| Y.v (Ev.asI rfl) <| Y.z ?_
    obtain ⟨d', stp', fin', T', H', hB'⟩ := hnx
    exact ⟨(by repeat (first | exact Agree.refl _ _ | exact Agree.mix _ _ _ | refine Agree.upd rfl ?_ | refine Agree.mix2 rfl ?_)), k2 - 1, by omega, j + 1, d', stp', fin', T', by omega, rfl, H'.drop (List.sublist_cons_self _ _), hB'⟩
   have hno : 0 < on[j] → ¬ (dAt d b' < farI ∧ dAt d b' + -l[j].cost < dAt d a) := by
    rw [hda, hdb]
    rintro q1 ⟨q2, q3⟩
    have q2 : d[b'] < 1099511627776 := q2
    simp [q1, q2] at hc16; omega
   have hnx : ∃ (d stp : List Int) (fin : List Bool) (T : Nat → Int), SH w0 [] w [⟨g13, 96, [I a, I b', I l[j].cap, I l[j].cost]⟩, ⟨gd, 3, d.map I⟩, ⟨gs, 3, stp.map I⟩, ⟨g3, 76, [I n, .slice (some ⟨b, o, none⟩) l.length cap]⟩] ∧ BFI l on n s K D rk r (fun i _ => i < j + 1) d stp fin T := by
    refine ⟨d, stp, fin, T, H, ?_⟩
    by_cases hlc : 0 < on[j]
    ·refine (hB.keep hn2 hS (eB hlc) (hno hlc)).mono fun i f u v r w _ hp => ?_
     rcases Nat.lt_succ_iff_lt_or_eq.1 hp with hp | rfl
     ·exact .inl (.inl hp)
     ·cases f with
      | true => exact .inl (.inr ⟨rfl, rfl⟩)
      | false => exact .inr ⟨rfl, rfl⟩
    ·exact hB.mono fun i f u v r w hE hp => by
      rcases Nat.lt_succ_iff_lt_or_eq.1 hp with hp | rfl
      ·exact .inl hp
      ·cases f with
       | true => exact .inr ⟨rfl, rfl⟩
       | false => obtain ⟨_, _, _, q⟩ := hE; exact absurd (q rfl).2.2.2.1 hlc
   refine Y.k <| Y.r <| Y.v (Y.m rfl) <| Y.v (Y.p rfl rfl) <| Y.v (Ev.asI rfl) <| Y.z ?_
   obtain ⟨d', stp', fin', T', H', hB'⟩ := hnx
   exact ⟨(by repeat (first | exact Agree.refl _ _ | exact Agree.mix _ _ _ | refine Agree.upd rfl ?_ | refine Agree.mix2 rfl ?_)), k2 - 1, by omega, j + 1, d', stp', fin', T', by omega, rfl, H'.drop (List.sublist_cons_self _ _), hB'⟩
  have hjl : j = l.length := by simp at hc11; omega
  subst hjl
  refine WP.exit <| XB.hit <| Y.r <| Y.v (Y.m rfl) <| Y.v (Y.p rfl rfl) <| Y.v (Ev.asI rfl) <| Y.z ?_
  exact ⟨(by repeat (first | exact Agree.refl _ _ | exact Agree.mix _ _ _ | refine Agree.upd rfl ?_ | refine Agree.mix2 rfl ?_)), k - 1, by omega, r + 1, d, stp, fin, T, by omega, rfl, H, hB.round hS⟩
 refine WP.exit <| XB.hit <| Y.qr <| Y.v (Ev.mvS rfl) <| Y.v (Ev.mvS rfl) <| Y.v (Ev.asS rfl) <| Y.v (Ev.asS rfl) <| Y.z ?_
 refine WP.ret ⟨_, rfl, ?_⟩
 have hrn : r = n := by simp at hc8; omega
 exact ⟨gd, gs, d, stp, T, rfl, hB.done hS hn2 (by omega), H.drop ((List.Sublist.cons_cons _ (List.Sublist.cons_cons _ (List.nil_sublist _))))⟩
end Go.Proofs.Ytgjfjbphngamgaa.Flo
