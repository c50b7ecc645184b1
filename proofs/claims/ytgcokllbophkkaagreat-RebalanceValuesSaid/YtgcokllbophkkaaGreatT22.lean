/-
 jbO: the reference's Feasible.
-/
import Derived.Test.YtgcokllbophkkaaGreatT10
import Derived.Test.YtgcokllbophkkaaGreatPtr
import Derived.Test.YtgcokllbophkkaaGreatFacts
set_option linter.all false
set_option maxHeartbeats 4000000
namespace Go.Proofs.YtgcokllbophkkaaGreat
open Go Go.W Go.RowKit
theorem fz5 {c d e : Blk} {Lt Lq : List Blk} : (e :: ([c, d] ++ (Lt ++ Lq))).Perm (([e, c, d] ++ Lq) ++ Lt) := jbf fun f => by simp <;> omega
theorem fz6 {c d e : Blk} {Lt Lq : List Blk} : (([e, c, d] ++ Lq) ++ Lt).Perm (([e, c, d] ++ Lt) ++ Lq) := jbf fun f => by simp <;> omega
theorem fz7 {c d e : Blk} {Lt Lq : List Blk} : ([c, d] ++ (Lt ++ Lq)).Sublist (([e, c, d] ++ Lt) ++ Lq) := by
 rw [← List.append_assoc]
 exact List.Sublist.append (List.Sublist.append ((List.Sublist.refl [c, d]).cons e) (List.Sublist.refl Lt)) (List.Sublist.refl Lq)
theorem jhN (n hd : Int) (A B C P F : Option Addr) (l : List Edg) (ts : List q9) (ns : List z6) (rs : List Rt) (left : List Int) (ca cb cc cp cf : Nat) (w0 : World) (hz : ja3 w0 A l) (ht : k8 4 k5 w0 B ts) (hn : k8 2 j8 w0 C ns)
  (hP : jcs w0 P rs) (hF : k9 w0 F left) (hfl : left.length ≤ 1000) (hnl : ns.length ≤ 1000) :
  Calls Tryz.prog 37 #[.agg #[I n, .slice A l.length ca, .slice B ts.length cb, .slice C ns.length cc, I hd], .agg #[.slice P rs.length cp, .slice F left.length cf]] w0 fun e w' =>
   e = .returned (I (jab n l ts ns hd rs left)) ∧ Below w0.heap.size w0 w' := by
 have H := SH.refl w0
 have hfew := hP.few
 refine Calls.ofWP Tryz.func37 rfl Tryz.results37 Tryz.ntmps37 rfl<|Y.qr<|Y.bx (cA rfl) H ?_
 clear H; intro g2 w H
 refine Y.bx (cA rfl) H ?_
 clear H; intro g3 w H
 refine Y.bz rfl<|Y.qq<|Y.O H 1 rfl<|Y.cl 15 rfl (jdL n hd A B C l ts ns ca cb cc w (hz.sh H) (ht.sh H) (hn.sh H)) H ?_
 clear H; intro w H
 refine Y.bz rfl<|Y.qr<|Y.a rfl<|Y.V rfl<|Y.z ?_
 refine WP.cond rfl (fun hc2 => ?_) (fun hc2 => ?_)
 ·refine Y.qr<|Y.a rfl<|Y.bz rfl ?_
  refine WP.ret ⟨_, rfl, ?_⟩
  have h : q7 n l ts ns hd ≠ 0 := by simpa using hc2
  exact ⟨by rw [jab, if_pos h]; rfl, H.below⟩
 have h0 : q7 n l ts ns hd = 0 := by simpa using hc2
 refine Y.k<|Y.qr<|Y.aS rfl<|Y.aS rfl<|Y.z<|Y.qq<|Y.bz rfl<|WP.block<|WP.loop [4, 6, 7, 8, 9, 10, 11, 19, 20, 21, 22, 23, 24, 25, 26, 27, 28, 29, 30, 31, 32, 33, 34, 35, 36, 37, 38, 39, 40, 41, 42, 43, 44, 45, 46, 47, 48, 49, 50, 51, 52, 53, 54, 55, 56] (fun k e w' => ∃ (j : Nat) (T Q : Option Addr) (ct cq : Nat) (Lt Lq : List Blk), j + k = rs.length ∧ e 8 = I j ∧ e 6 = .slice T j ct ∧ e 7 = .slice Q (jbQ (rs.take j)).length cq ∧ OwnS T ct j (((rs.take j).map (·.trk)).map I) 3 1 Lt ∧ OwnS Q cq (jbQ (rs.take j)).length ((jbQ (rs.take j)).map I) 3 1 Lq ∧ (∀ i (hi : i < rs.length), i < j → y7 n l ts ns hd rs[i].trk rs[i].nd.l = 0) ∧ SH w0 [] w' ([⟨g3, 34, [.slice P rs.length cp, .slice F left.length cf]⟩, ⟨g2, 28, [I n, .slice A l.length ca, .slice B ts.length cb, .slice C ns.length cc, I hd]⟩] ++ (Lt ++ Lq))) (rs.length) (⟨0, none, none, 0, 0, [], [], by omega, rfl, rfl, rfl, OwnS.nil, OwnS.nil, fun i _ h => absurd h (by omega), by rw [List.append_nil, List.append_nil]; exact H⟩) ?_
 clear H
 rintro k u w ⟨j, T, Q, ct, cq, Lt, Lq, hk, h8, h6, h7, hOT, hOQ, hall, H⟩
 refine WP.know (t := 8) h8 (WP.know (t := 6) h6 (WP.know (t := 7) h7 ?_))
 have hlenA : (jbQ (rs.take j)).length ≤ 1000000 := by
  have h1 := jf8 (rs.take j) (fun r hr => hP.len r (List.mem_of_mem_take hr))
  have h2 : (rs.take j).length ≤ j := List.length_take_le _ _
  omega
 refine Y.qq<|Y.a rfl<|Y.W H 0 rfl<|Y.E rfl<|Y.lt rfl<|Y.z ?_
 refine WP.cond rfl (fun hc6 => ?_) (fun hc6 => ?_)
 ·have hlt : j < rs.length := by simpa using hc6
  obtain ⟨b, o, rfl, hc⟩ := hP.rows j hlt
  have hr := hP.ints rs[j] (List.getElem_mem hlt)
  have hrl := hP.len rs[j] (List.getElem_mem hlt)
  have hrc := hP.cap rs[j] (List.getElem_mem hlt)
  have htk : rs.take (j + 1) = rs.take j ++ [rs[j]] := List.take_succ_eq_append_getElem hlt
  have hk0 : w0.cell? ⟨b, o + j * 2, none⟩ = some (I rs[j].trk) := hc.1
  have hk1 : w0.cell? ⟨b, o + j * 2 + 1, none⟩ = some (.slice rs[j].nd.A rs[j].nd.l.length rs[j].nd.cap) := hc.2.1
  refine Y.k<|Y.q<|WP.block<|Y.q<|Y.q ?_
  refine WP.rheldC [9, 10, 11, 26, 27, 28, 29, 30, 31, 32, 33, 34, 35, 36] (fun u w' => u 11 = I (y7 n l ts ns hd rs[j].trk rs[j].nd.l) ∧ SH w0 [] w' ([⟨g3, 34, [.slice (some ⟨b, o, none⟩) rs.length cp, .slice F left.length cf]⟩, ⟨g2, 28, [I n, .slice A l.length ca, .slice B ts.length cb, .slice C ns.length cc, I hd]⟩] ++ (Lt ++ Lq))) mixed H ?_ ?_
  ·clear H; intro w hbw8 H
   refine Y.t 0 H rfl rfl (fun w H => Y.o H 1 rfl rfl)<|Y.tf 1 H rfl<|Y.tl 2 H 0 rfl<|Y.t 3 H rfl rfl (fun w H => Y.m rfl)<|Y.t 4 H rfl rfl (fun w H => Y.X rfl rfl rfl rfl rfl) ?_
   refine OPH.take 5 rfl rfl rfl rfl (by kernel_rfl) (by kernel_rfl) (by kernel_rfl) rfl (by exact H) (fun w H => (by (change Ev _ _ _ _ (Op.load 49 (Operand.tmp 31)) _; (refine Ev.loadN (b := b) (o := o + j * 2) (jaT rs[j]) ?_ ?_ ?_ (k7 H hc); exact j6 rfl; exact j4 rfl; rfl)))) ?_
   refine Y.A1 6 rfl rfl<|Y.c2 33 rfl (r42Walk n hd rs[j].trk A B C rs[j].nd.A l ts ns rs[j].nd.l ca cb cc rs[j].nd.cap _ (hz.sh H) (ht.sh H) (hn.sh H) (hr.sh H) (by unfold maxLen; omega)) ?_
   rintro _ w ⟨V, cv, Lv, rfl, hO, Hc⟩
   refine ⟨_, rfl, ?_⟩
   replace H := SH.call (Lv := []) (by rw [List.append_nil]; exact H) Hc
   replace H := H.drop Y.sl
   clear Hc hO
   refine Y.z <| ⟨(H), ?_⟩
   refine Y.t 7 H rfl rfl (fun w H => Ev.mvT rfl)<|Y.t 8 H rfl rfl (fun w H => Ev.extract rfl rfl)<|Y.t 9 H rfl rfl (fun w H => Ev.extract rfl rfl)<|Y.t 10 H rfl rfl (fun w H => Ev.extract rfl rfl)<|Y.t 11 H rfl rfl (fun w H => Ev.asS rfl)<|Y.t 12 H rfl rfl (fun w H => Ev.asI rfl)<|Y.t 13 H rfl rfl (fun w H => Ev.asI rfl)<|Y.dn ?_
   exact ⟨Y.ag, rfl, H⟩
  clear H
  rintro u w ⟨h11, H⟩
  refine WP.know (t := 11) h11<|Y.qr<|Y.a rfl<|Y.V rfl<|Y.z ?_
  refine WP.cond rfl (fun hc9 => ?_) (fun hc9 => ?_)
  ·refine Y.qr<|Y.a rfl<|Y.bz rfl ?_
   refine WP.ret ⟨_, rfl, ?_⟩
   have h : y7 n l ts ns hd rs[j].trk rs[j].nd.l ≠ 0 := by simpa using hc9
   have hE := jfL hlt hall h
   exact ⟨by rw [jab, if_neg (by simp [h0]), hE, if_pos h]; rfl, H.below⟩
  have h9 : y7 n l ts ns hd rs[j].trk rs[j].nd.l = 0 := by simpa using hc9
  refine Y.k<|Y.qr<|Y.sS rfl<|Y.W H 0 rfl<|Y.a rfl<|Y.U rfl<|Y.F rfl<|Y.v (Y.c (H.ld0 (by assumption)) rfl) ?_
  refine OPS.buildSlice rfl rfl rfl rfl (jaJ rfl) H ?_
  clear H; intro g47 w H
  refine OPS.append (m := 1) (news := [I rs[j].trk]) (R := [⟨g47, 3, [I rs[j].trk]⟩, ⟨g3, 34, [.slice (some ⟨b, o, none⟩) rs.length cp, .slice F left.length cf]⟩, ⟨g2, 28, [I n, .slice A l.length ca, .slice B ts.length cb, .slice C ns.length cc, I hd]⟩] ++ Lq) rfl rfl rfl rfl rfl (z8 rfl) rfl rfl hOT rfl (y0 H 0 rfl) rfl (by omega) (by unfold maxLen; omega) H fz5 ?_
  clear H hOT; intro T ct Lt w hOT H
  refine Y.aS rfl<|Y.z<|Y.r<|Y.sS rfl<|Y.W H 1 rfl<|Y.a rfl<|Y.U rfl<|Y.F rfl<|Y.v (Y.c (H.ld0 (by assumption)) rfl) ?_
  refine OPS.appendE (m := rs[j].nd.l.length) (news := rs[j].nd.l.map I) (R := [⟨g47, 3, [I rs[j].trk]⟩, ⟨g3, 34, [.slice (some ⟨b, o, none⟩) rs.length cp, .slice F left.length cf]⟩, ⟨g2, 28, [I n, .slice A l.length ca, .slice B ts.length cb, .slice C ns.length cc, I hd]⟩] ++ Lt) rfl rfl rfl rfl rfl (z8 rfl) rfl rfl hOQ (by simp) (jfX (hr.sh H)) (jeN _) (by omega) (by unfold maxLen; omega) H fz6 ?_
  clear H hOQ; intro Q cq Lq w hOQ H
  refine Y.aS rfl<|Y.z<|Y.r<|Y.a rfl<|Y.P rfl<|Y.bz rfl ?_
  have eA : jbQ (rs.take (j + 1)) = jbQ (rs.take j) ++ rs[j].nd.l := by rw [htk]; unfold jbQ; rw [List.flatMap_append, List.flatMap_cons, List.flatMap_nil, List.append_nil]
  have eL : (jbQ (rs.take (j + 1))).length = (jbQ (rs.take j)).length + rs[j].nd.l.length := by rw [eA, List.length_append]
  refine ⟨Y.ag, k - 1, by omega, j + 1, T, Q, ct, cq, Lt, Lq, by omega, rfl, rfl, (by rw [eL]; rfl), (by rw [htk, List.map_append, List.map_append]; exact hOT), (by rw [eL, eA, List.map_append]; exact hOQ), fun i hi hij => ?_, H.drop fz7⟩
  rcases Nat.lt_succ_iff_lt_or_eq.1 hij with h | rfl
  ·exact hall i hi h
  ·exact h9
 have hj : j = rs.length := by simp at hc6; omega
 subst hj
 rw [List.take_length] at hOT hOQ hlenA
 have hE := jeV (n := n) (l := l) (ts := ts) (ns := ns) (hd := hd) (fun i hi => hall i hi hi)
 have e0 : jab n l ts ns hd rs left = if (jaA (rs.map (·.trk)) || jaA (jbQ rs ++ left)) = true then 6 else if jbm ns.length (jbQ rs ++ left) = true then (if jbC left = true then 0 else 9) else 7 := by rw [jab, if_neg (by simp [h0]), if_neg (by simp [hE])]
 have hTl : (rs.map (·.trk)).length = rs.length := by simp
 rw [show (List.take rs.length rs) = rs from List.take_length]
 have hin : ∀ i ∈ jbQ rs, 0 ≤ i ∧ i < (ns.length : Int) := fun i hi => by
  obtain ⟨r, hr, hir⟩ := List.mem_flatMap.1 hi
  obtain ⟨q, hq, rfl⟩ := List.mem_iff_getElem.1 hr
  exact (jbX (jeP (hall q hq hq)).2).2.1 i hir
 refine WP.exit<|XB.hit<|Y.qr<|Y.sS rfl<|Y.W H 0 rfl<|OPS.appendE (m := left.length) (news := left.map I) (R := [⟨g3, 34, [.slice P rs.length cp, .slice F left.length cf]⟩, ⟨g2, 28, [I n, .slice A l.length ca, .slice B ts.length cb, .slice C ns.length cc, I hd]⟩] ++ Lt) rfl rfl rfl rfl rfl (z8 rfl) rfl rfl hOQ (by simp) (jfX (hF.sh H)) (jeN _) (by omega) (by unfold maxLen; omega) H fz3 ?_
 clear H hOQ; intro Q cq Lq w hOQ H
 rw [← List.map_append, ← List.length_append] at hOQ
 have hLA : (jbQ rs ++ left).length ≤ 1001000 := by rw [List.length_append]; omega
 rw [← List.length_append]
 refine Y.aS rfl<|Y.z<|Y.qq<|Y.sS rfl ?_
 have hxT := (hOT.ones (R := [⟨g3, 34, [.slice P rs.length cp, .slice F left.length cf]⟩, ⟨g2, 28, [I n, .slice A l.length ca, .slice B ts.length cb, .slice C ns.length cc, I hd]⟩] ++ Lq) (H.perm (by exact jbf fun f => by simp <;> omega))).1
 have hTw := jfZ T (rs.map (·.trk)) ct w hxT (by rw [hTl]; unfold maxLen; omega)
 rw [hTl] at hTw
 refine Y.cl 62 rfl (hTw) H ?_
 clear H; intro w H
 refine Y.B rfl<|Y.g rfl rfl (fun hg => Ev.mvS rfl)<|OPS.gcall0 (f := 62) (jfZ Q (jbQ rs ++ left) cq w ((hOQ.ones H).1) (by unfold maxLen; omega)) (fun _ _ h => h) rfl rfl rfl rfl rfl (fun hg => EvC.conv (EvC.func (z7 rfl)) (l1 (gvE hg rfl))) ?_
 intro w hbc; replace H := H.toBelow hbc
 refine Y.po rfl<|Y.z ?_
 refine WP.cond rfl (fun hc14 => ?_) (fun hc14 => ?_)
 ·refine Y.qr<|Y.bz rfl ?_
  refine WP.ret ⟨_, rfl, ?_⟩
  exact ⟨by rw [e0, if_pos hc14]; rfl, H.below⟩
 have h15 : jaA (rs.map (·.trk)) = false ∧ jaA (jbQ rs ++ left) = false := by simpa using hc14
 have hnd : (jbQ rs ++ left).Nodup := by simpa [jaA] using h15.2
 have e1 : jab n l ts ns hd rs left = if jbm ns.length (jbQ rs ++ left) = true then (if jbC left = true then 0 else 9) else 7 := by rw [e0, if_neg (by rw [h15.1, h15.2]; decide)]
 have hgr := jmY hnd hin
 refine Y.k<|Y.qq<|Y.bz rfl<|WP.block<|WP.loop [4, 12, 67, 68, 69, 70, 71, 72, 73, 74, 75, 76, 77, 78, 79, 80, 81, 82, 83, 84, 85, 86, 87, 88, 89, 90] (fun k e w' => ∃ j : Nat, j + k = left.length ∧ e 12 = I j ∧ (∀ i (hi : i < left.length), i < j → 0 ≤ left[i] ∧ left[i] < (ns.length : Int)) ∧ SH w0 [] w' ([⟨g3, 34, [.slice P rs.length cp, .slice F left.length cf]⟩, ⟨g2, 28, [I n, .slice A l.length ca, .slice B ts.length cb, .slice C ns.length cc, I hd]⟩] ++ Lt ++ Lq)) (left.length) (⟨0, by omega, rfl, (fun i _ h => absurd h (by omega)), H⟩) ?_
 clear H
 rintro k u w ⟨j, hk, h12, hil, H⟩
 refine WP.know (t := 12) h12<|Y.qq<|Y.a rfl<|Y.W H 0 rfl<|Y.E rfl<|Y.lt rfl<|Y.z ?_
 refine WP.cond rfl (fun hc17 => ?_) (fun hc17 => ?_)
 ·have hlt : j < left.length := by simpa using hc17
  obtain ⟨bf, of, rfl, hx⟩ := hF j hlt
  refine Y.k<|Y.q<|WP.block<|Y.q<|WP.rstill mixed (by kernel_rfl) H ?_
  clear H; intro w hbw19 H
  refine Y.W H 0 rfl<|Y.a rfl<|Y.I rfl<|Y.v (Y.c (H.ld0 (by assumption)) rfl) ?_
  refine Y.lt rfl<|Y.B rfl<|Y.gf rfl<|Y.yy H 0 rfl<|Y.gm rfl<|Y.g rfl rfl (fun hg => Ev.indexAddr1 (x7 rfl) (j4 rfl) (gvE hg rfl) (gvE hg rfl) rfl (by omega))<|Y.g rfl rfl (fun hg => Ev.load1 (j6 rfl) (gvE hg rfl) (H.ld0 (by assumption))) ?_
  refine Y.gf rfl<|Y.yy H 1 rfl<|Y.g rfl rfl (fun hg => Ev.len (x7 rfl) (gvE hg rfl))<|Y.g rfl rfl (fun hg => Ev.geq (gvE hg rfl) (gvE hg rfl))<|Y.po rfl<|OPS.nil_s ?_
  refine WP.cond rfl (fun hc19 => ?_) (fun hc19 => ?_)
  ·refine Y.qr<|Y.bz rfl ?_
   refine WP.ret ⟨_, rfl, ?_⟩
   have hbad : ¬ (0 ≤ left[j] ∧ left[j] < (ns.length : Int)) := by simp at hc19; omega
   have hg : ¬ jbm ns.length (jbQ rs ++ left) = true := fun h => hbad ((hgr.1 h).1 left[j] (List.getElem_mem hlt))
   exact ⟨by rw [e1, if_neg hg]; rfl, H.below⟩
  refine Y.k<|Y.r<|Y.a rfl<|Y.P rfl<|Y.bz rfl ?_
  have hgd : 0 ≤ left[j] ∧ left[j] < (ns.length : Int) := by simp at hc19; omega
  refine ⟨Y.ag, k - 1, by omega, j + 1, by omega, rfl, fun i hi hij => ?_, H⟩
  rcases Nat.lt_succ_iff_lt_or_eq.1 hij with h | rfl
  ·exact hil i hi h
  ·exact hgd
 have hj : j = left.length := by simp at hc17; omega
 subst hj
 have hil2 : ∀ i ∈ left, 0 ≤ i ∧ i < (ns.length : Int) := fun i hi => by
  obtain ⟨q, hq, rfl⟩ := List.mem_iff_getElem.1 hi
  exact hil q hq hq
 refine WP.exit<|XB.hit<|Y.qq<|Y.sS rfl<|Y.E rfl<|Y.W H 1 rfl<|Y.E rfl<|Y.lt rfl<|Y.z ?_
 refine WP.cond rfl (fun hc21 => ?_) (fun hc21 => ?_)
 ·refine Y.qr<|Y.bz rfl ?_
  refine WP.ret ⟨_, rfl, ?_⟩
  have hlt : ¬ ns.length ≤ (jbQ rs ++ left).length := by simp at hc21; simp; omega
  have hg : ¬ jbm ns.length (jbQ rs ++ left) = true := fun h => hlt (hgr.1 h).2
  exact ⟨by rw [e1, if_neg hg]; rfl, H.below⟩
 have hlt : ns.length ≤ (jbQ rs ++ left).length := by simp at hc21; simp; omega
 have hg : jbm ns.length (jbQ rs ++ left) = true := hgr.2 ⟨hil2, hlt⟩
 rw [e1, if_pos hg]
 refine Y.k<|Y.qq<|Y.bz rfl<|WP.block<|WP.loop [4, 13, 97, 98, 99, 100, 101, 102, 103, 104, 105, 106, 107, 108, 109, 110, 111, 112, 113, 114, 115] (fun k e w' => ∃ j : Nat, 1 ≤ j ∧ j + k = left.length + 1 ∧ e 13 = I j ∧ (∀ i : Nat, i + 1 < j → i + 1 < left.length → left.getD i 0 ≤ left.getD (i + 1) 0) ∧ SH w0 [] w' ([⟨g3, 34, [.slice P rs.length cp, .slice F left.length cf]⟩, ⟨g2, 28, [I n, .slice A l.length ca, .slice B ts.length cb, .slice C ns.length cc, I hd]⟩] ++ Lt ++ Lq)) (left.length) (⟨1, by omega, by omega, rfl, (fun i h _ => absurd h (by omega)), H⟩) ?_
 clear H
 rintro k u w ⟨j, hj1, hk, h13, hso, H⟩
 refine WP.know (t := 13) h13<|Y.qq<|Y.a rfl<|Y.W H 0 rfl<|Y.E rfl<|Y.lt rfl<|Y.z ?_
 refine WP.cond rfl (fun hc24 => ?_) (fun hc24 => ?_)
 ·have hlt : j < left.length := by simpa using hc24
  obtain ⟨bf, of, rfl, hx⟩ := hF j hlt
  obtain ⟨q, rfl⟩ : ∃ q, j = q + 1 := ⟨j - 1, by omega⟩
  have hx2 := hF.atK (show q < left.length by omega)
  have hq1 : left.getD q 0 = left[q]'(by omega) := by simp [show q < left.length by omega]
  have hq2 : left.getD (q + 1) 0 = left[q + 1]'(by omega) := by simp [hlt]
  refine Y.k<|Y.q<|WP.block<|Y.q<|WP.rstill mixed (by kernel_rfl) H ?_
  clear H; intro w hbw26 H
  refine Y.W H 0 rfl<|Y.a rfl<|Y.I rfl<|Y.v (Y.c (H.ld0 (by assumption)) rfl) ?_
  refine Y.W H 0 rfl<|Y.a rfl<|Y.Q rfl<|Y.v (Ev.indexAddr1 (j := q) (x7 rfl) (j4 rfl) rfl rfl (by omega) (by omega))<|Y.v (Y.c (H.ld0 (by assumption)) rfl) ?_
  refine Y.lt rfl<|OPS.nil_s ?_
  refine WP.cond rfl (fun hc26 => ?_) (fun hc26 => ?_)
  ·refine Y.qr<|Y.bz rfl ?_
   refine WP.ret ⟨_, rfl, ?_⟩
   have hls : left[q + 1] < left[q] := by simpa using hc26
   have hnot : ¬ jbC left = true := fun h => by
    have h2 := List.all_eq_true.1 h q (List.mem_range.2 (by omega))
    rw [hq1, hq2] at h2
    have := of_decide_eq_true h2
    omega
   exact ⟨by rw [if_neg hnot]; rfl, H.below⟩
  refine Y.k<|Y.r<|Y.a rfl<|Y.P rfl<|Y.bz rfl ?_
  have hls : ¬ left[q + 1] < left[q] := by simpa using hc26
  refine ⟨Y.ag, k - 1, by omega, q + 1 + 1, by omega, by omega, rfl, fun i h1 h2 => ?_, H⟩
  rcases Nat.lt_or_ge (i + 1) (q + 1) with h | h
  ·exact hso i h h2
  ·obtain rfl : i = q := by omega
   rw [hq1, hq2]; omega
 refine WP.exit<|XB.hit<|Y.qr<|Y.bz rfl ?_
 refine WP.ret ⟨_, rfl, ?_⟩
 have hge : left.length ≤ j := by simp at hc24; omega
 have hsd : jbC left = true := by
  unfold jbC
  rw [List.all_eq_true]
  intro i hi
  have := List.mem_range.1 hi
  exact decide_eq_true (hso i (by omega) (by omega))
 exact ⟨by rw [if_pos hsd]; rfl, H.below⟩
end Go.Proofs.YtgcokllbophkkaaGreat
namespace Go.Proofs.YtgcokllbophkkaaGreat
open Go Go.W Go.RowKit
end Go.Proofs.YtgcokllbophkkaaGreat
namespace Go.Proofs.YtgcokllbophkkaaGreat
open Go Go.W Go.RowKit
structure jaE (w : World) (A B C : Option Addr) (l : List Edg) (ts : List q9) (ns : List z6) (cc : Nat) : Prop where
 l : ja3 w A l
 t : k8 4 k5 w B ts
 n : k8 2 j8 w C ns
 c : ns.length ≤ cc
theorem jaE.below {w w' : World} {A B C : Option Addr} {l : List Edg} {ts : List q9} {ns : List z6} {cc : Nat} (h : jaE w A B C l ts ns cc) (hb : Below w.heap.size w w') : jaE w' A B C l ts ns cc := ⟨h.l.below hb, h.t.below hb, h.n.below hb, h.c⟩
theorem jaE.sh {w w' : World} {A B C : Option Addr} {l : List Edg} {ts : List q9} {ns : List z6} {cc : Nat} {L : List Blk} (h : jaE w A B C l ts ns cc) (H : SH w [] w' L) : jaE w' A B C l ts ns cc := h.below H.below
structure jiz (w : World) (A : Option Addr) (rs : List Rt) : Prop where
 rows : k8 2 jaT w A rs
 ints : ∀ r ∈ rs, k9 w r.nd.A r.nd.l
 cap : ∀ r ∈ rs, r.nd.l.length ≤ r.nd.cap
end Go.Proofs.YtgcokllbophkkaaGreat
namespace Go.Proofs.YtgcokllbophkkaaGreat
open Go Go.W Go.RowKit
section
variable {D : Nat → Nat → Int} {cap hd : Int} {ns : List z6} {rn : List Int} {s0 : TS}
theorem goE_at (h : goE D cap hd ns rn s0 = 0) {j : Nat} (hj : j < rn.length) : jat (goD D ns rn[j] (goT D hd ns (rn.take j) s0)) cap (jaw ns rn[j]) (goT D hd ns (rn.take j) s0) = 0 := by
 have h2 := jed D cap hd ns (rn.take j) (rn.drop j) s0
 rw [List.take_append_drop, h] at h2
 by_cases h3 : goE D cap hd ns (rn.take j) s0 = 0
 ·rw [if_neg (by simp [h3]), List.drop_eq_getElem_cons hj] at h2
  simp only [goE] at h2
  by_cases h4 : jat (goD D ns rn[j] (goT D hd ns (rn.take j) s0)) cap (jaw ns rn[j]) (goT D hd ns (rn.take j) s0) = 0
  ·exact h4
  ·rw [if_pos h4] at h2; exact h2.symm
 ·rw [if_pos h3] at h2; exact absurd h2.symm h3
theorem jmn {j : Nat} (hj : j < rn.length) : goT D hd ns (rn.take (j + 1)) s0 = jbP (goD D ns rn[j] (goT D hd ns (rn.take j) s0)) hd (jaw ns rn[j]) (goT D hd ns (rn.take j) s0) := by
 rw [List.take_succ_eq_append_getElem hj, jf7]; rfl
end
structure jjJ (m q : Nat) (l : List Edg) (ts : List q9) (ns : List z6) (hd : Int) (rn : List Int) (t : q9) : Prop where
 night : jbU m l ts ns hd
 hq : q < ts.length
 ht : ts[q]? = some t
 tr : (0 ≤ t.depot ∧ t.depot < m) ∧ (1 ≤ t.cap ∧ t.cap ≤ 32) ∧ 0 ≤ t.from_ ∧ t.from_ ≤ t.to_ ∧ t.to_ ≤ 86400
 hr : ∀ i ∈ rn, 0 ≤ i ∧ i < ns.length
 nd : rn.Nodup
 go : goE (jac m l) t.cap hd ns rn (y3 t) = 0
 home : jce (x9 m l (goT (jac m l) hd ns rn (y3 t)).at_ t.depot.toNat) hd t (goT (jac m l) hd ns rn (y3 t)) = 0
 V : jgf m l ts ns hd q rn = goV (jac m l) hd ns rn (y3 t)
 B : jeQ m l ts ns hd q rn = (goT (jac m l) hd ns rn (y3 t)).now + x9 m l (goT (jac m l) hd ns rn (y3 t)).at_ t.depot.toNat + (goT (jac m l) hd ns rn (y3 t)).load * hd
 D : jf3 m l ts ns hd q rn = (goT (jac m l) hd ns rn (y3 t)).driven + x9 m l (goT (jac m l) hd ns rn (y3 t)).at_ t.depot.toNat
theorem jlz {n hd rt : Int} {l : List Edg} {ts : List q9} {ns : List z6} {rn : List Int} (h : y7 n l ts ns hd rt rn = 0) : ∃ (m q : Nat) (t : q9), n = m ∧ rt = q ∧ jjJ m q l ts ns hd rn t := by
 obtain ⟨h1, h2⟩ := jeP h
 obtain ⟨m, rfl, hN⟩ := jaO h1
 obtain ⟨hrt, hrr, hrd, _⟩ := jbX h2
 obtain ⟨q, rfl⟩ := Int.eq_ofNat_of_zero_le hrt.1
 have hq : q < ts.length := by omega
 have hgt : ts.getD (q : Int).toNat default = ts[q] := by simp [hq]
 have h3 := h
 rw [y7, if_neg (by simp [h1]), if_neg (by simp [h2])] at h3
 unfold jg8 at h3
 rw [hgt] at h3
 have hgo : goE (jac m l) ts[q].cap hd ns rn (y3 ts[q]) = 0 := by
  by_cases h4 : goE (jac m l) ts[q].cap hd ns rn (y3 ts[q]) = 0
  ·exact h4
  ·rw [if_pos h4] at h3; exact h3
 rw [if_neg (by simp [hgo])] at h3
 refine ⟨m, q, ts[q], rfl, rfl, hN, hq, by simp [hq], hN.tr _ (List.getElem_mem hq), hrr, hrd, hgo, by simpa [jac] using h3, ?_, ?_, ?_⟩
 ·rw [jgf, if_pos h, jfm, hgt]
 ·rw [jeQ, if_pos h, jef, jg8, hgt]; simp [jf9, jac]
 ·rw [jf3, if_pos h, jef, jg8, hgt]; simp [jf9, jac]
theorem jjJ.ts {m q : Nat} {l : List Edg} {ts : List q9} {ns : List z6} {hd : Int} {rn : List Int} {t : q9} (h : jjJ m q l ts ns hd rn t) : ∀ (j : Nat), j ≤ rn.length → jkO m t.cap j (goT (jac m l) hd ns (rn.take j) (y3 t))
 | 0, _ => by rw [List.take_zero]; exact jkO.start h.tr
 | j + 1, hj => by
  have hlt : j < rn.length := by omega
  have ih := h.ts j (by omega)
  have hv := goE_at h.go hlt
  obtain ⟨hi0, hi1⟩ := h.hr rn[j] (List.getElem_mem hlt)
  obtain ⟨ni, hni⟩ := Int.eq_ofNat_of_zero_le hi0
  have hnl : ni < ns.length := by omega
  have hna : jaw ns rn[j] = ns[ni] := by rw [hni]; simp [jaw, hnl]
  rw [jmn hlt]
  unfold goD jac at hv ⊢
  rw [hna] at hv ⊢
  simp only [Int.toNat_natCast] at hv ⊢
  exact ih.step h.night.road (h.night.nd ns[ni] (List.getElem_mem hnl)) h.night.hh hv
end Go.Proofs.YtgcokllbophkkaaGreat
namespace Go.Proofs.YtgcokllbophkkaaGreat
open Go Go.W Go.RowKit
structure jg2 (n : Int) (l : List Edg) (ts : List q9) (ns : List z6) (hd : Int) (rs : List Rt) (left : List Int) : Prop where
 night : q7 n l ts ns hd = 0
 walks : ∀ i (hi : i < rs.length), y7 n l ts ns hd rs[i].trk rs[i].nd.l = 0
 trk : (rs.map (·.trk)).Nodup
 nd : (jbQ rs ++ left).Nodup
 good : jbm ns.length (jbQ rs ++ left) = true
 sorted : jbC left = true
theorem jfU {n : Int} {l : List Edg} {ts : List q9} {ns : List z6} {hd : Int} : ∀ {rs : List Rt}, jbs n l ts ns hd rs = 0 → ∀ i (hi : i < rs.length), y7 n l ts ns hd rs[i].trk rs[i].nd.l = 0
 | [], _, i, hi => by simp at hi
 | r :: rs, h, i, hi => by
  rw [jbs] at h
  have h0 : y7 n l ts ns hd r.trk r.nd.l = 0 := by
   by_cases h1 : y7 n l ts ns hd r.trk r.nd.l = 0
   ·exact h1
   ·rw [if_pos h1] at h; exact h
  rw [if_neg (by simp [h0])] at h
  cases i with
  | zero => exact h0
  | succ i => exact jfU h i (by simpa using hi)
theorem jdK {n : Int} {l : List Edg} {ts : List q9} {ns : List z6} {hd : Int} {rs : List Rt} {left : List Int} (h : jab n l ts ns hd rs left = 0) : jg2 n l ts ns hd rs left := by
 unfold jab at h
 split at h
 ·rename_i h1; exact absurd h h1
 ·rename_i h1
  split at h
  ·rename_i h2; exact absurd h h2
  ·rename_i h2
   split at h
   ·cases h
   ·rename_i h3
    split at h
    ·rename_i h4
     split at h
     ·rename_i h5
      have h3' : jaA (rs.map (·.trk)) = false ∧ jaA (jbQ rs ++ left) = false := by simpa using h3
      exact ⟨by simpa using h1, jfU (by simpa using h2), by simpa [jaA] using h3'.1, by simpa [jaA] using h3'.2, h4, h5⟩
     ·cases h
    ·cases h
end Go.Proofs.YtgcokllbophkkaaGreat
namespace Go.Proofs.YtgcokllbophkkaaGreat.Flo
open Go Go.W Go.RowKit
structure Arc where
 f : Int
 t : Int
 cap : Int
 cost : Int
def arcCells (a : Arc) : List Value := [I a.f, I a.t, I a.cap, I a.cost]
abbrev ArcsAt := k8 4 arcCells
def jaV (n k : Int) : Bool := decide (0 ≤ k) && decide (k < n)
theorem jeJ (n k : Int) (A : Option Addr) (m cap : Nat) (w0 : World) :
  Calls Tryz.prog 147 #[.agg #[I n, .slice A m cap], I k] w0 fun e w' => e = .returned (.bool (jaV n k)) ∧ Below w0.heap.size w0 w' := by
 have H := SH.refl w0
 refine Calls.ofWP Tryz.func147 rfl Tryz.results147 Tryz.ntmps147 rfl<|Y.qr<|Y.bx (cA rfl) H ?_
 clear H; intro g2 w H
 refine Y.aB rfl<|Y.z<|Y.qr<|Y.a rfl<|Y.v (Ev.leq rfl rfl)<|Y.B rfl<|Y.gm rfl<|Y.gf rfl<|Y.yy H 0 rfl<|Y.g rfl rfl (fun hg => Ev.lss (gvE hg rfl) (gvE hg rfl))<|Y.pa rfl<|Y.aB rfl<|Y.z ?_
 refine WP.ret ⟨_, rfl, ?_⟩
 exact ⟨rfl, H.below⟩
def jcS (n : Int) (a : Arc) : Bool := (!jaV n a.f) || (!jaV n a.t)
def jbE (a : Arc) : Bool := decide (a.cap < 0) || decide (65536 < a.cap) || decide (a.cost < 0) || decide (65536 < a.cost)
def jbl (n : Int) : List Arc → Int
 | [] => 0
 | a :: l => if jcS n a = true then 7 else if jbE a = true then 1 else jbl n l
def jby (n : Int) (l : List Arc) : Int := if (decide (n < 1) || decide (64 < n)) = true then 1 else if (512 : Int) < l.length then 8 else jbl n l
theorem ja7 {n : Int} {l : List Arc} : ∀ {j : Nat}, j ≤ l.length → (∀ i (hi : i < l.length), i < j → jcS n l[i] = false ∧ jbE l[i] = false) → jbl n l = jbl n (l.drop j)
 | 0, _, _ => rfl
 | j + 1, hj, h => by
  rw [ja7 (j := j) (by omega) (fun i hi hij => h i hi (by omega)), List.drop_eq_getElem_cons (show j < l.length by omega), jbl]
  have := h j (by omega) (by omega)
  simp [this.1, this.2]
theorem jlx (n : Int) (A : Option Addr) (l : List Arc) (cap : Nat) (w0 : World) (hz : ArcsAt w0 A l) :
  Calls Tryz.prog 146 #[.agg #[I n, .slice A l.length cap]] w0 fun e w' => e = .returned (I (jby n l)) ∧ Below w0.heap.size w0 w' := by
 have H := SH.refl w0
 refine Calls.ofWP Tryz.func146 rfl Tryz.results146 Tryz.ntmps146 rfl<|Y.qr<|Y.bx (cA rfl) H ?_
 clear H; intro g1 w H
 refine Y.bz rfl<|Y.qq<|Y.W H 0 rfl<|Y.lt rfl<|Y.B rfl<|Y.gf rfl<|Y.yy H 0 rfl<|Y.g rfl rfl (fun hg => Ev.gtr (gvE hg rfl) rfl)<|Y.po rfl<|Y.z ?_
 refine WP.cond rfl (fun hc1 => ?_) (fun hc1 => ?_)
 ·refine Y.qr<|Y.bz rfl ?_
  refine WP.ret ⟨_, rfl, ?_⟩
  exact ⟨by rw [jby, if_pos hc1]; rfl, H.below⟩
 refine Y.k<|Y.qq<|Y.W H 0 rfl<|Y.E rfl<|Y.v (Ev.gtr rfl rfl)<|Y.z ?_
 refine WP.cond rfl (fun hc3 => ?_) (fun hc3 => ?_)
 ·refine Y.qr<|Y.bz rfl ?_
  refine WP.ret ⟨_, rfl, ?_⟩
  exact ⟨by rw [jby, if_neg (by simp [hc1]), if_pos (by simpa using hc3)]; rfl, H.below⟩
 have hl : l.length ≤ 512 := by simp at hc3; omega
 have e0 : jby n l = jbl n l := by rw [jby, if_neg (by simp [hc1]), if_neg (by simpa using hc3)]
 refine Y.k<|Y.qq<|Y.W H 0 rfl<|Y.E rfl<|Y.a rfl<|Y.z<|WP.block<|WP.loop [2, 4, 20, 21, 22, 23, 24, 25, 26, 27, 28, 29, 30, 31, 32, 33, 34, 35, 36, 37, 38, 39, 40, 41, 42, 43, 44, 45, 46, 47, 48, 49, 50, 51, 52, 53, 54] (fun k e w' => ∃ j : Nat, j + k = l.length ∧ e 20 = .int .i64 j ∧ SH w0 [] w' [⟨g1, 123, [I n, .slice A l.length cap]⟩] ∧ ∀ i (hi : i < l.length), i < j → jcS n l[i] = false ∧ jbE l[i] = false) (l.length) (⟨0, by omega, rfl, H, fun i _ hi => absurd hi (by omega)⟩) ?_
 clear H
 rintro k u w ⟨j, hk, h20, H, hall⟩
 refine WP.know (t := 20) h20<|Y.qr<|Y.lt rfl<|Y.z<|Y.q ?_
 refine WP.cond rfl (fun hc6 => ?_) (fun hc6 => ?_)
 ·have hlt : j < l.length := by simpa using hc6
  obtain ⟨b, o, rfl, hc⟩ := hz j hlt
  have hc' := k7 H hc
  refine Y.k<|Y.q<|WP.block<|Y.qr<|Y.U rfl<|Y.v (by (change Ev _ _ _ _ (Op.load 151 (Operand.tmp 22)) _; exact Ev.loadN (arcCells l[j]) (j6 rfl) (j4 rfl) rfl hc'))<|Y.al H rfl rfl ?_
  clear H; intro g4 w H
  refine Y.ss 0 H rfl (cA rfl) rfl ?_
  clear H; intro w H
  refine Y.z<|Y.qq<|Y.O H 1 rfl<|Y.W H 0 rfl<|Y.cl 27 rfl (jeJ n l[j].f _ _ _ _) H ?_
  clear H; intro w H
  refine Y.v (Ev.not rfl)<|Y.B rfl<|Y.g rfl rfl (fun hg => Y.o H 1 rfl rfl)<|Y.gf rfl<|Y.yy H 0 rfl<|OPS.gcall0 (f := 147) (jeJ n l[j].t _ _ _ _) (fun _ _ h => h) rfl rfl rfl rfl rfl (fun hg => EvC.conv (EvC.func (z7 rfl)) (l2 (gvE hg rfl) (gvE hg rfl))) ?_
  intro w hbc; replace H := H.toBelow hbc
  refine Y.g rfl rfl (fun hg => Ev.not (gvE hg rfl))<|Y.po rfl<|Y.z ?_
  refine WP.cond rfl (fun hc8 => ?_) (fun hc8 => ?_)
  ·refine Y.qr<|Y.bz rfl ?_
   refine WP.ret ⟨_, rfl, ?_⟩
   exact ⟨by rw [e0, ja7 (by omega) hall, List.drop_eq_getElem_cons hlt, jbl, if_pos (show jcS n l[j] = true from hc8)]; rfl, H.below⟩
  refine Y.k<|Y.qr<|Y.W H 0 rfl<|Y.lt rfl<|Y.B rfl<|Y.gf rfl<|Y.yy H 0 rfl<|Y.g rfl rfl (fun hg => Ev.gtr (gvE hg rfl) rfl)<|Y.po rfl<|Y.B rfl<|Y.gf rfl<|Y.yy H 0 rfl<|Y.g rfl rfl (fun hg => Ev.lss (gvE hg rfl) rfl)<|Y.po rfl<|Y.B rfl<|Y.gf rfl<|Y.yy H 0 rfl<|Y.g rfl rfl (fun hg => Ev.gtr (gvE hg rfl) rfl)<|Y.po rfl<|Y.z ?_
  refine WP.cond rfl (fun hc10 => ?_) (fun hc10 => ?_)
  ·refine Y.qr<|Y.bz rfl ?_
   refine WP.ret ⟨_, rfl, ?_⟩
   exact ⟨by rw [e0, ja7 (by omega) hall, List.drop_eq_getElem_cons hlt, jbl, if_neg (by rw [show jcS n l[j] = false from hc8]; simp), if_pos (show jbE l[j] = true from hc10)]; rfl, H.below⟩
  refine Y.k<|Y.r<|Y.P rfl<|Y.a rfl<|Y.z ?_
  refine ⟨Y.ag, k - 1, by omega, j + 1, by omega, rfl, H.drop (by simp), fun i hi hij => ?_⟩
  rcases Nat.lt_succ_iff_lt_or_eq.1 hij with h | rfl
  ·exact hall i hi h
  ·exact ⟨hc8, hc10⟩
 refine WP.exit<|XB.hit<|Y.qr<|Y.bz rfl ?_
 refine WP.ret ⟨_, rfl, ?_⟩
 have : j = l.length := by simp at hc6; omega
 subst this
 exact ⟨by rw [e0, ja7 (by omega) hall]; simp [jbl]; rfl, H.below⟩
def endsErr (n : Int) (l : List Arc) (f t : Int) : Int :=
 if jby n l ≠ 0 then jby n l else if ((!jaV n f) || (!jaV n t)) = true then 7 else if f = t then 1 else 0
theorem jlT (n f t : Int) (A : Option Addr) (l : List Arc) (cap : Nat) (w0 : World) (hz : ArcsAt w0 A l) :
  Calls Tryz.prog 130 #[.agg #[I n, .slice A l.length cap], I f, I t] w0 fun e w' => e = .returned (I (endsErr n l f t)) ∧ Below w0.heap.size w0 w' := by
 have H := SH.refl w0
 refine Calls.ofWP Tryz.func130 rfl Tryz.results130 Tryz.ntmps130 rfl<|Y.qr<|Y.bx (cA rfl) H ?_
 clear H; intro g3 w H
 refine Y.bz rfl<|Y.qq<|Y.O H 0 rfl<|Y.cl 9 rfl (jlx n A l cap w (hz.sh H)) H ?_
 clear H; intro w H
 refine Y.bz rfl<|WP.block<|Y.qr<|Y.a rfl<|Y.V rfl<|Y.aB rfl<|Y.z ?_
 refine WP.cond rfl (fun hc2 => ?_) (fun hc2 => ?_)
 ·refine Y.qr<|Y.a rfl<|Y.bz rfl ?_
  refine WP.ret ⟨_, rfl, ?_⟩
  have h : jby n l ≠ 0 := by simpa using hc2
  exact ⟨by rw [endsErr, if_pos h]; rfl, H.below⟩
 have h0 : jby n l = 0 := by simpa using hc2
 refine Y.qr<|Y.O H 0 rfl<|Y.a rfl<|Y.cl 17 rfl (jeJ n f _ _ _ _) H ?_
 clear H; intro w H
 refine Y.v (Ev.not rfl)<|Y.B rfl<|Y.g rfl rfl (fun hg => Y.o H 0 rfl rfl)<|Y.gm rfl<|OPS.gcall0 (f := 147) (jeJ n t _ _ _ _) (fun _ _ h => h) rfl rfl rfl rfl rfl (fun hg => EvC.conv (EvC.func (z7 rfl)) (l2 (gvE hg rfl) (gvE hg rfl))) ?_
 intro w hbc; replace H := H.toBelow hbc
 refine Y.g rfl rfl (fun hg => Ev.not (gvE hg rfl))<|Y.po rfl<|Y.aB rfl<|Y.z ?_
 refine WP.cond rfl (fun hc4 => ?_) (fun hc4 => ?_)
 ·refine Y.qr<|Y.bz rfl ?_
  refine WP.ret ⟨_, rfl, ?_⟩
  exact ⟨by rw [endsErr, if_neg (by simp [h0]), if_pos hc4]; rfl, H.below⟩
 refine Y.qr<|Y.a rfl<|Y.a rfl<|Y.v (Ev.eql rfl rfl)<|Y.aB rfl<|Y.z ?_
 refine WP.cond rfl (fun hc6 => ?_) (fun hc6 => ?_)
 ·refine Y.qr<|Y.bz rfl ?_
  refine WP.ret ⟨_, rfl, ?_⟩
  exact ⟨by rw [endsErr, if_neg (by simp [h0]), if_neg (by simp [hc4]), if_pos (by simpa using hc6)]; rfl, H.below⟩
 refine Y.k<|Y.qr<|Y.bz rfl ?_
 refine WP.ret ⟨_, rfl, ?_⟩
 exact ⟨by rw [endsErr, if_neg (by simp [h0]), if_neg (by simp [hc4]), if_neg (by simpa using hc6)]; rfl, H.below⟩
end Go.Proofs.YtgcokllbophkkaaGreat.Flo
namespace Go.Proofs.YtgcokllbophkkaaGreat.Flo
open Go Go.W Go.RowKit
instance : Inhabited Arc := ⟨⟨0, 0, 0, 0⟩⟩
abbrev VisF (σ : Type) := σ → Int → Int → Nat → Int → Int → Bool → σ
def jff {σ : Type} (vis : VisF σ) (i : Nat) (a : Arc) (x : Int) (s : σ) : σ := if x < a.cap then vis s a.f a.t i (a.cap - x) a.cost true else s
def jdz {σ : Type} (vis : VisF σ) (i : Nat) (a : Arc) (x : Int) (s : σ) : σ := if 0 < x then vis s a.t a.f i x (-a.cost) false else s
def jcv {σ : Type} (vis : VisF σ) (l : List Arc) (on : List Int) : Nat → σ → σ
 | 0, s => s
 | k + 1, s => jdz vis k (l.getD k default) (on.getD k 0) (jff vis k (l.getD k default) (on.getD k 0) (jcv vis l on k s))
theorem jcB {σ : Type} (vis : VisF σ) (l : List Arc) (on : List Int) (k : Nat) (s : σ) (h : k < l.length) (h2 : k < on.length) :
  jcv vis l on (k + 1) s = jdz vis k l[k] on[k] (jff vis k l[k] on[k] (jcv vis l on k s)) := by
 rw [jcv]; simp [h, h2]
theorem jmS {σ : Type} (vis : VisF σ) (Lv : σ → List Blk) (gs : List Nat) (hgs : ∀ s, (Lv s).map (·.g) = gs) (Inv : σ → Prop) (fv : Nat) (caps : List Value)
  (n : Int) (A B : Option Addr) (l : List Arc) (on : List Int) (cap cap2 : Nat) (s0 : σ) (w0 : World)
  (hfun : jhU fv = true)
  (hz : ArcsAt w0 A l) (hA : l ≠ [] → Off A gs) (ho : k9 w0 B on) (hB : on ≠ [] → Off B gs) (hlen : on.length = l.length) (hl : l.length ≤ 4096)
  (hcap : ∀ i (h : i < l.length), -1000000 ≤ l[i].cap ∧ l[i].cap ≤ 1000000 ∧ -1000000 ≤ l[i].cost ∧ l[i].cost ≤ 1000000) (hon : ∀ i (h : i < on.length), -1000000000 ≤ on[i] ∧ on[i] ≤ 1000000000)
  (hvF : ∀ i (h : i < l.length) (h2 : i < on.length) s w, Inv s → on[i] < l[i].cap → SH w gs w (Lv s) → Calls Tryz.prog fv ([I l[i].f, I l[i].t, I i, I (l[i].cap - on[i]), I l[i].cost, .bool true] ++ caps).toArray w fun e w' => e = .returned (.tuple #[]) ∧ SH w gs w' (Lv (vis s l[i].f l[i].t i (l[i].cap - on[i]) l[i].cost true)))
  (hiF : ∀ i (h : i < l.length) (h2 : i < on.length) s, Inv s → on[i] < l[i].cap → Inv (vis s l[i].f l[i].t i (l[i].cap - on[i]) l[i].cost true))
  (hvB : ∀ i (h : i < l.length) (h2 : i < on.length) s w, Inv s → 0 < on[i] → SH w gs w (Lv s) → Calls Tryz.prog fv ([I l[i].t, I l[i].f, I i, I on[i], I (-l[i].cost), .bool false] ++ caps).toArray w fun e w' => e = .returned (.tuple #[]) ∧ SH w gs w' (Lv (vis s l[i].t l[i].f i on[i] (-l[i].cost) false)))
  (hiB : ∀ i (h : i < l.length) (h2 : i < on.length) s, Inv s → 0 < on[i] → Inv (vis s l[i].t l[i].f i on[i] (-l[i].cost) false))
  (hs0 : Inv s0) (H0 : SH w0 gs w0 (Lv s0)) :
  Calls Tryz.prog 136 #[.agg #[I n, .slice A l.length cap, .slice B on.length cap2], .func (.func fv) #[] caps.toArray] w0 fun e w' => e = .returned (.tuple #[]) ∧ SH w0 gs w' (Lv (jcv vis l on l.length s0)) := by
 have H := H0
 refine Calls.ofWP Tryz.func136 rfl Tryz.results136 Tryz.ntmps136 rfl<|Y.qr<|Y.bx (cA rfl) H ?_
 clear H; intro g2 w H
 refine Y.z<|Y.qr<|Y.F rfl<|Y.W H 0 rfl<|Y.E rfl<|Y.a rfl<|Y.z<|WP.block<|WP.loop [4, 5, 10, 11, 12, 13, 14, 15, 16, 17, 18, 19, 20, 21, 22, 23, 24, 25, 26, 27, 28, 29, 30, 31, 32, 33, 34, 35, 36, 37, 38, 39, 40, 41, 42, 43, 44, 45, 46, 47, 48, 49, 50, 51, 52, 53, 54, 55, 56, 57, 58, 59, 60, 61] (fun k e w' => ∃ j : Nat, j + k = l.length ∧ e 10 = .int .i64 j ∧ SH w0 gs w' ([⟨g2, 174, [I n, .slice A l.length cap, .slice B on.length cap2]⟩] ++ Lv (jcv vis l on j s0)) ∧ Inv (jcv vis l on j s0)) (l.length) (⟨0, by omega, rfl, H, hs0⟩) ?_
 clear H
 rintro k u w ⟨j, hk, h10, H, hi⟩
 refine WP.know (t := 10) h10 ?_
 generalize hs : jcv vis l on j s0 = s at H hi
 refine Y.qr<|Y.lt rfl<|Y.z<|Y.q ?_
 refine Y.i rfl (fun hc2 => ?_) fun hc2 => ?_
 ·have hlt : j < l.length := by simpa using hc2
  have hlt2 : j < on.length := by omega
  obtain ⟨b, o, rfl, hc⟩ := hz j hlt
  obtain ⟨b2, o2, rfl, hx⟩ := ho j hlt2
  have hbS : b ∉ gs := hA (List.ne_nil_of_length_pos (by omega)) b o rfl
  have hbS2 : b2 ∉ gs := hB (List.ne_nil_of_length_pos (by omega)) b2 o2 rfl
  have hc' := jbT H hbS hc
  have hcb := hcap j hlt
  have hob := hon j hlt2
  refine Y.k<|Y.q<|WP.block<|Y.qr<|Y.a rfl<|Y.U rfl<|Y.v (by (change Ev _ _ _ _ (Op.load 151 (Operand.tmp 13)) _; exact Ev.loadN (arcCells l[j]) (j6 rfl) (j4 rfl) rfl hc'))<|Y.al H rfl rfl ?_
  clear H; intro g5 w H
  refine Y.b rfl<|Y.ss 0 H rfl (cA rfl) rfl ?_
  clear H; intro w H
  refine Y.z<|Y.q<|Y.q<|WP.rstill mixed (by kernel_rfl) H ?_
  clear H; intro w hbw4 H
  refine Y.W H 1 rfl<|Y.a rfl<|Y.I rfl<|Y.v (Y.c (H.ldS (by assumption) (by assumption)) rfl) ?_
  refine Y.W H 0 rfl<|Y.lt rfl<|OPS.nil_s ?_
  refine Y.i rfl (fun hc4 => ?_) fun hc4 => ?_
  ·refine WP.rtail 16 mixed (by kernel_rfl) H ?_
   clear H; intro w hbw5 H
   refine Y.v (Ev.mvF rfl)<|Y.W H 0 rfl<|Y.W H 0 rfl<|Y.a rfl<|Y.W H 0 rfl<|Y.W H 1 rfl<|Y.a rfl<|Y.I rfl<|Y.v (Y.c (H.ldS (by assumption) (by assumption)) rfl) ?_
   refine Y.Q rfl<|Y.W H 0 rfl<|OPS.nil_s<|OPS.call (d := some 39) rfl rfl rfl (EvC.clos rfl (z7 (by assumption))) (hvF j hlt hlt2 s _ hi (by simpa using hc4) (by rw [← hgs s]; exact H.restart (Y.sc.trans Y.sc))) ?_
   rintro _ w ⟨rfl, Hc⟩
   refine ⟨_, rfl, ?_⟩
   replace H := SH.call (L1 := [⟨g5, 151, arcCells l[j]⟩, ⟨g2, 174, [I n, .slice (some ⟨b, o, none⟩) l.length cap, .slice (some ⟨b2, o2, none⟩) on.length cap2]⟩]) H (by rw [hgs s]; exact Hc)
   clear Hc
   replace hi := hiF j hlt hlt2 s hi (by simpa using hc4)
   have hs1 : jff vis j l[j] on[j] s = vis s l[j].f l[j].t j (l[j].cap - on[j]) l[j].cost true := if_pos (by simpa using hc4)
   generalize vis s l[j].f l[j].t j (l[j].cap - on[j]) l[j].cost true = s1 at H hi hs1
   refine Y.z<|Y.qr<|Y.W H 1 rfl<|Y.a rfl<|Y.I rfl<|Y.v (Y.c (H.ldS (by assumption) (by assumption)) rfl) ?_
   refine Y.v (Ev.gtr rfl rfl)<|Y.z ?_
   refine Y.i rfl (fun hc6 => ?_) fun hc6 => ?_
   ·refine WP.rtail 14 mixed (by kernel_rfl) H ?_
    clear H; intro w hbw7 H
    refine Y.v (Ev.mvF rfl)<|Y.W H 0 rfl<|Y.W H 0 rfl<|Y.a rfl<|Y.W H 1 rfl<|Y.a rfl<|Y.I rfl<|Y.v (Y.c (H.ldS (by assumption) (by assumption)) rfl) ?_
    refine Y.W H 0 rfl<|Y.v (Ev.neg rfl (by unfold fits; omega))<|OPS.nil_s<|OPS.call (d := some 60) rfl rfl rfl (EvC.clos rfl (z7 (by assumption))) (hvB j hlt hlt2 s1 _ hi (by simpa using hc6) (by rw [← hgs s1]; exact H.restart (Y.sc.trans Y.sc))) ?_
    rintro _ w ⟨rfl, Hc⟩
    refine ⟨_, rfl, ?_⟩
    replace H := SH.call (L1 := [⟨g5, 151, arcCells l[j]⟩, ⟨g2, 174, [I n, .slice (some ⟨b, o, none⟩) l.length cap, .slice (some ⟨b2, o2, none⟩) on.length cap2]⟩]) H (by rw [hgs s1]; exact Hc)
    clear Hc
    replace hi := hiB j hlt hlt2 s1 hi (by simpa using hc6)
    have hs2 : jdz vis j l[j] on[j] s1 = vis s1 l[j].t l[j].f j on[j] (-l[j].cost) false := if_pos (by simpa using hc6)
    refine Y.z<|Y.r<|Y.P rfl<|Y.a rfl<|Y.z ?_
    have hfin : jcv vis l on (j + 1) s0 = jdz vis j l[j] on[j] s1 := by
     rw [jcB vis l on j s0 hlt hlt2, hs]
     rw [hs1]
    refine ⟨Y.ag, k - 1, by omega, j + 1, by omega, rfl, ?_, ?_⟩
    ·rw [hfin, hs2]; exact H.drop Y.sc
    ·rw [hfin, hs2]; exact hi
   have hs2 : jdz vis j l[j] on[j] s1 = s1 := if_neg (by simpa using hc6)
   refine Y.k<|Y.r<|Y.P rfl<|Y.a rfl<|Y.z ?_
   have hfin : jcv vis l on (j + 1) s0 = jdz vis j l[j] on[j] s1 := by
    rw [jcB vis l on j s0 hlt hlt2, hs]
    rw [hs1]
   refine ⟨Y.ag, k - 1, by omega, j + 1, by omega, rfl, ?_, ?_⟩
   ·rw [hfin, hs2]; exact H.drop Y.sc
   ·rw [hfin, hs2]; exact hi
  have hs1 : jff vis j l[j] on[j] s = s := if_neg (by simpa using hc4)
  generalize hss : s = s1 at H hi
  rw [hss] at hs1
  refine Y.k<|Y.qr<|Y.W H 1 rfl<|Y.a rfl<|Y.I rfl<|Y.v (Y.c (H.ldS (by assumption) (by assumption)) rfl) ?_
  refine Y.v (Ev.gtr rfl rfl)<|Y.z ?_
  refine Y.i rfl (fun hc6 => ?_) fun hc6 => ?_
  ·refine WP.rtail 14 mixed (by kernel_rfl) H ?_
   clear H; intro w hbw7 H
   refine Y.v (Ev.mvF rfl)<|Y.W H 0 rfl<|Y.W H 0 rfl<|Y.a rfl<|Y.W H 1 rfl<|Y.a rfl<|Y.I rfl<|Y.v (Y.c (H.ldS (by assumption) (by assumption)) rfl) ?_
   refine Y.W H 0 rfl<|Y.v (Ev.neg rfl (by unfold fits; omega))<|OPS.nil_s<|OPS.call (d := some 60) rfl rfl rfl (EvC.clos rfl (z7 (by assumption))) (hvB j hlt hlt2 s1 _ hi (by simpa using hc6) (by rw [← hgs s1]; exact H.restart (Y.sc.trans Y.sc))) ?_
   rintro _ w ⟨rfl, Hc⟩
   refine ⟨_, rfl, ?_⟩
   replace H := SH.call (L1 := [⟨g5, 151, arcCells l[j]⟩, ⟨g2, 174, [I n, .slice (some ⟨b, o, none⟩) l.length cap, .slice (some ⟨b2, o2, none⟩) on.length cap2]⟩]) H (by rw [hgs s1]; exact Hc)
   clear Hc
   replace hi := hiB j hlt hlt2 s1 hi (by simpa using hc6)
   have hs2 : jdz vis j l[j] on[j] s1 = vis s1 l[j].t l[j].f j on[j] (-l[j].cost) false := if_pos (by simpa using hc6)
   refine Y.z<|Y.r<|Y.P rfl<|Y.a rfl<|Y.z ?_
   have hfin : jcv vis l on (j + 1) s0 = jdz vis j l[j] on[j] s1 := by
    rw [jcB vis l on j s0 hlt hlt2, hs]
    rw [hss, hs1]
   refine ⟨Y.ag, k - 1, by omega, j + 1, by omega, rfl, ?_, ?_⟩
   ·rw [hfin, hs2]; exact H.drop Y.sc
   ·rw [hfin, hs2]; exact hi
  have hs2 : jdz vis j l[j] on[j] s1 = s1 := if_neg (by simpa using hc6)
  refine Y.k<|Y.r<|Y.P rfl<|Y.a rfl<|Y.z ?_
  have hfin : jcv vis l on (j + 1) s0 = jdz vis j l[j] on[j] s1 := by
   rw [jcB vis l on j s0 hlt hlt2, hs]
   rw [hss, hs1]
  refine ⟨Y.ag, k - 1, by omega, j + 1, by omega, rfl, ?_, ?_⟩
  ·rw [hfin, hs2]; exact H.drop Y.sc
  ·rw [hfin, hs2]; exact hi
 refine WP.exit<|XB.hit <| ⟨_, rfl, ?_⟩
 have : j = l.length := by simp at hc2; omega
 subst this
 rw [hs]
 exact ⟨rfl, H.drop Y.sc⟩
end Go.Proofs.YtgcokllbophkkaaGreat.Flo
namespace Go.Proofs.YtgcokllbophkkaaGreat.Flo
open Go Go.W Go.RowKit
structure Step where
 from_ : Int
 arc : Int
 room : Int
 fwd : Bool
 known : Bool
 depth : Int
instance : Inhabited Step := ⟨⟨0, 0, 0, false, false, 0⟩⟩
def y2 (s : Step) : List Value := [I s.from_, I s.arc, I s.room, Bo s.fwd, Bo s.known, I s.depth]
theorem jaj (s : Step) : (y2 s).length = 6 := rfl
abbrev RSt := List Step × Bool
def jma (d : Int) (s : RSt) (a b : Nat) : Bool := (((s.1.getD a default).known && decide ((s.1.getD a default).depth = d)) && !(s.1.getD b default).known) && decide (b < s.1.length)
def jdG (d : Int) : VisF RSt := fun s a b arc room _ fwd =>
 if jma d s a.toNat b.toNat = true then (s.1.set b.toNat ⟨a, arc, room, fwd, true, d + 1⟩, true) else s
def jcr (gs gd gg ga n : Nat) (d : Int) (s : RSt) : List Blk := [⟨gs, 175, [.slice (some ⟨ga, 0, none⟩) n n]⟩, ⟨gd, 3, [I d]⟩, ⟨gg, 4, [Bo s.2]⟩, ⟨ga, 179, s.1.flatMap y2⟩]
theorem jfJ (gs gd gg ga n ai bi : Nat) (d room cost : Int) (arc : Nat) (fwd : Bool) (s : RSt) (w0 : World) (hn : s.1.length = n) (ha : ai < n) (hb : bi < n) (hd : 0 ≤ d) (hd2 : d ≤ 1000000)
  (H0 : SH w0 [gs, gd, gg, ga] w0 (jcr gs gd gg ga n d s)) :
  Calls Tryz.prog 164 #[I ai, I bi, I arc, I room, I cost, .bool fwd, .pointer (some ⟨gs, 0, none⟩), .pointer (some ⟨gd, 0, none⟩), .pointer (some ⟨gg, 0, none⟩)] w0
   fun e w' => e = .returned (.tuple #[]) ∧ SH w0 [gs, gd, gg, ga] w' (jcr gs gd gg ga n d (jdG d s ai bi arc room cost fwd)) := by
 have H := H0
 unfold jcr at H
 have hga : s.1.getD ai default = s.1[ai] := by simp [hn, ha]
 have hgb : s.1.getD bi default = s.1[bi] := by simp [hn, hb]
 refine Calls.ofWP Tryz.func164 rfl Tryz.results164 Tryz.ntmps164 rfl<|Y.q<|WP.rstill mixed (by kernel_rfl) H ?_
 clear H; intro w hbw0 H
 have hrow := jbF jaj H 3 rfl
 obtain ⟨_, _, e1, a0, a1, a2, a3, a4, a5, _⟩ := hrow ai (by omega)
 cases e1
 obtain ⟨_, _, e1, b0, b1, b2, b3, b4, b5, _⟩ := hrow bi (by omega)
 cases e1
 refine Y.J H 0 rfl<|Y.a rfl<|Y.U rfl<|Y.F rfl<|Y.v (Y.c (by assumption) rfl) ?_
 refine Y.B rfl<|Y.g rfl rfl (fun hg => Y.l H 0 rfl rfl rfl)<|Y.gm rfl<|Y.g rfl rfl (fun hg => Ev.indexAddr (x7 rfl) (j4 rfl) (gvE hg rfl) (gvE hg rfl) rfl (by omega))<|Y.g rfl rfl (fun hg => Ev.fieldAddr (jaf rfl) (gvE hg rfl))<|Y.g rfl rfl (fun hg => Ev.load1 (j6 rfl) (gvE hg rfl) (by assumption)) ?_
 refine Y.g rfl rfl (fun hg => Y.l H 1 rfl rfl rfl)<|Y.g rfl rfl (fun hg => Ev.eql (gvE hg rfl) (gvE hg rfl))<|Y.pa rfl<|Y.B rfl<|Y.g rfl rfl (fun hg => Y.l H 0 rfl rfl rfl)<|Y.gm rfl<|Y.g rfl rfl (fun hg => Ev.indexAddr (x7 rfl) (j4 rfl) (gvE hg rfl) (gvE hg rfl) rfl (by omega))<|Y.g rfl rfl (fun hg => Ev.fieldAddr (jaf rfl) (gvE hg rfl))<|Y.g rfl rfl (fun hg => Ev.load1 (j6 rfl) (gvE hg rfl) (by assumption)) ?_
 refine Y.g rfl rfl (fun hg => Ev.not (gvE hg rfl))<|Y.pa rfl<|OPS.nil_s ?_
 refine Y.i rfl (fun hc0 => ?_) fun hc0 => ?_
 ·have hc : jma d s ai bi = true := by rw [jma, hga, hgb, show decide (bi < s.1.length) = true by simp [hn, hb], Bool.and_true]; exact hc0
  have hv : jdG d s ai bi arc room cost fwd = (s.1.set bi ⟨ai, arc, room, fwd, true, d + 1⟩, true) := by simp only [jdG, Int.toNat_natCast, hc, if_true]
  refine Y.qr<|Y.J H 0 rfl<|Y.a rfl<|Y.a rfl<|Y.a rfl<|Y.a rfl<|Y.B rfl<|Y.J H 1 rfl<|Y.P rfl<|Y.v (Ev.build (jdA rfl rfl rfl rfl rfl rfl))<|Y.U rfl<|OPS.store 3 _ rfl rfl rfl (j4 rfl) rfl rfl rfl rfl H rfl (by simp only [x8 jaj]; omega) ?_
  clear H; intro w H
  have hp := jb0 jaj s.1 bi ⟨ai, arc, room, fwd, true, d + 1⟩ (by omega)
  rw [Nat.zero_add] at H
  replace H : SH w0 [gs, gd, gg, ga] w [⟨gs, 175, [.slice (some ⟨ga, 0, none⟩) n n]⟩, ⟨gd, 3, [I d]⟩, ⟨gg, 4, [Bo s.2]⟩, ⟨ga, 179, jam (s.1.flatMap y2) (bi * 6) (y2 ⟨ai, arc, room, fwd, true, d + 1⟩)⟩] := H
  rw [hp] at H
  refine Y.z<|Y.r<|Y.ss 2 H rfl (cB rfl) rfl ?_
  clear H; intro w H
  refine Y.z <| ⟨_, rfl, ?_⟩
  exact ⟨rfl, by rw [hv]; exact H⟩
 have hc : jma d s ai bi = false := by rw [jma, hga, hgb, show decide (bi < s.1.length) = true by simp [hn, hb], Bool.and_true]; exact hc0
 have hv : jdG d s ai bi arc room cost fwd = s := by simp only [jdG, Int.toNat_natCast, hc]; rfl
 refine Y.k <| ⟨_, rfl, ?_⟩
 exact ⟨rfl, by rw [hv]; exact H⟩
end Go.Proofs.YtgcokllbophkkaaGreat.Flo
namespace Go.Proofs.YtgcokllbophkkaaGreat.Flo
open Go Go.W Go.RowKit
def jbu (l : List Arc) (on : List Int) (d : Int) (sts : List Step) : RSt := jcv (jdG d) l on l.length (sts, false)
def jcf (l : List Arc) (on : List Int) : Nat → Int → List Step → List Step
 | 0, _, sts => sts
 | f + 1, d, sts => if (jbu l on d sts).2 = true then jcf l on f (d + 1) (jbu l on d sts).1 else (jbu l on d sts).1
def jad (n f : Nat) : List Step := (List.replicate n default).set f ⟨f, -1, 0, false, true, 0⟩
def jb6 (l : List Arc) (on : List Int) (n f : Nat) : List Step := jcf l on (n + 1) 0 (jad n f)
def unk (sts : List Step) : Nat := sts.countP fun s => !s.known
theorem jdF (d : Int) (s : RSt) (a b : Int) (arc : Nat) (room cost : Int) (fwd : Bool) : (jdG d s a b arc room cost fwd).1.length = s.1.length := by
 unfold jdG; split <;> simp
def RInv (sts0 : List Step) (s : RSt) : Prop := s.1.length = sts0.length ∧ (s.2 = false → s.1 = sts0) ∧ (s.2 = true → unk s.1 < unk sts0)
theorem unk_set {sts : List Step} {b : Nat} {x : Step} (hb : b < sts.length) (h : sts[b].known = false) (hx : x.known = true) : unk (sts.set b x) < unk sts := by
 unfold unk
 have h1 : (sts.countP fun s => !s.known) = ((sts.take b).countP fun s => !s.known) + ((sts.drop b).countP fun s => !s.known) := by
  rw [← List.countP_append, List.take_append_drop]
 have h2 : ((sts.set b x).countP fun s => !s.known) = ((sts.take b).countP fun s => !s.known) + ((sts.drop (b+1)).countP fun s => !s.known) := by
  rw [List.set_eq_take_append_cons_drop, if_pos hb, List.countP_append, List.countP_cons]; simp [hx]
 rw [h1, h2, List.drop_eq_getElem_cons hb, List.countP_cons]
 simp [h]
theorem jl0 {sts0 : List Step} (d : Int) (s : RSt) (a b : Int) (arc : Nat) (room cost : Int) (fwd : Bool) (h : RInv sts0 s) : RInv sts0 (jdG d s a b arc room cost fwd) := by
 refine ⟨by rw [jdF]; exact h.1, ?_, ?_⟩
 ·unfold jdG; split
  ·intro hc; cases hc
  ·exact h.2.1
 ·unfold jdG; split
  ·rename_i hc
   intro _
   simp only
   unfold jma at hc
   simp only [Bool.and_eq_true, Bool.not_eq_true', decide_eq_true_eq] at hc
   have hb : b.toNat < s.1.length := hc.2
   have hk : s.1[b.toNat].known = false := by have := hc.1.2; simpa [hb] using this
   have h1 := unk_set hb hk (x := ⟨a, arc, room, fwd, true, d + 1⟩) rfl
   cases hs : s.2 with
   | false => rw [h.2.1 hs] at h1; rw [h.2.1 hs]; exact h1
   | true => have := h.2.2 hs; omega
  ·exact h.2.2
theorem jgS {σ : Type} {vis : VisF σ} {l : List Arc} {on : List Int} {Inv : σ → Prop} (h : ∀ s a b arc room cost fwd, Inv s → Inv (vis s a b arc room cost fwd)) {s : σ} (hs : Inv s) : ∀ k, Inv (jcv vis l on k s)
 | 0 => hs
 | k + 1 => by
  have ih := jgS (l := l) (on := on) h hs k
  rw [jcv]
  have h1 : Inv (jff vis k (l.getD k default) (on.getD k 0) (jcv vis l on k s)) := by unfold jff; split; exact h _ _ _ _ _ _ _ ih; exact ih
  unfold jdz; split
  ·exact h _ _ _ _ _ _ _ h1
  ·exact h1
theorem jeb (l : List Arc) (on : List Int) (d : Int) (sts : List Step) : RInv sts (jbu l on d sts) :=
 jgS (fun s a b arc room cost fwd h => jl0 d s a b arc room cost fwd h) ⟨rfl, fun _ => rfl, fun h => by cases h⟩ _
theorem jkE (n f : Nat) (A B : Option Addr) (l : List Arc) (on : List Int) (cap cap2 : Nat) (w0 : World) (hf : f < n) (hn : n ≤ 64)
  (hz : ArcsAt w0 A l) (ho : k9 w0 B on) (hlen : on.length = l.length) (hl : l.length ≤ 4096)
  (hcap : ∀ i (h : i < l.length), -1000000 ≤ l[i].cap ∧ l[i].cap ≤ 1000000 ∧ -1000000 ≤ l[i].cost ∧ l[i].cost ≤ 1000000) (hon : ∀ i (h : i < on.length), -1000000000 ≤ on[i] ∧ on[i] ≤ 1000000000)
  (hnode : ∀ i (h : i < l.length), (0 ≤ l[i].f ∧ l[i].f < n) ∧ (0 ≤ l[i].t ∧ l[i].t < n)) :
  Calls Tryz.prog 148 #[.agg #[I n, .slice A l.length cap, .slice B on.length cap2], I f] w0
   fun e w' => ∃ ga, e = .returned (.slice (some ⟨ga, 0, none⟩) n n) ∧ SH w0 [] w' [⟨ga, 179, (jb6 l on n f).flatMap y2⟩] := by
 have H := SH.refl w0
 refine Calls.ofWP Tryz.func148 rfl Tryz.results148 Tryz.ntmps148 rfl<|Y.qr<|Y.bx (cA rfl) H ?_
 clear H; intro g2 w H
 refine Y.aS rfl<|Y.z<|Y.qr<|Y.F rfl<|Y.W H 0 rfl<|Y.M H rfl ?_
 clear H; intro g11 w H
 refine Y.al H rfl rfl ?_
 clear H; intro g5 w H
 refine Y.ss 0 H rfl (cS rfl) rfl ?_
 clear H; intro w H
 refine Y.z<|Y.qr<|Y.J H 0 rfl<|Y.a rfl<|Y.a rfl<|Y.v (Ev.build (jdU rfl rfl rfl))<|Y.U rfl<|OPS.store 1 _ rfl rfl rfl (j4 rfl) rfl (cA rfl) rfl rfl H rfl (by simp only [jdm, List.length_cons, List.length_nil]; omega) ?_
 clear H; intro w H
 have hp := jb0 jaj (List.replicate n default) f ⟨f, -1, 0, false, true, 0⟩ (by simpa using hf)
 rw [← jgh] at hp
 rw [Nat.zero_add] at H
 replace H : SH w0 [] w [⟨g5, 175, [.slice (some ⟨g11, 0, none⟩) n n]⟩, ⟨g11, 179, jam (mkL n (y2 default)) (f * 6) (y2 ⟨f, -1, 0, false, true, 0⟩)⟩, ⟨g2, 174, [I n, .slice A l.length cap, .slice B on.length cap2]⟩] := H
 rw [hp] at H
 refine Y.z<|Y.qq<|Y.al H rfl rfl ?_
 clear H; intro g6 w H
 refine Y.al H rfl rfl ?_
 clear H; intro g7 w H
 refine Y.ss 1 H rfl (cI rfl) rfl ?_
 clear H; intro w H
 refine Y.ss 0 H rfl (cB rfl) rfl ?_
 clear H; intro w H
 refine Y.z<|WP.block<|WP.loop [6, 7, 17, 18, 19, 20, 21, 22, 23, 24] (fun k e w' => ∃ (gg gd : Nat) (d : Nat) (g : Bool) (sts : List Step), e 6 = .pointer (some ⟨gd, 0, none⟩) ∧ e 7 = .pointer (some ⟨gg, 0, none⟩) ∧ SH w0 [] w' [⟨g2, 174, [I n, .slice A l.length cap, .slice B on.length cap2]⟩, ⟨g5, 175, [.slice (some ⟨g11, 0, none⟩) n n]⟩, ⟨gd, 3, [I d]⟩, ⟨gg, 4, [Bo g]⟩, ⟨g11, 179, sts.flatMap y2⟩] ∧ sts.length = n ∧ d + k ≤ n + 1 ∧ (g = true → unk sts < k ∧ jb6 l on n f = jcf l on k d sts) ∧ (g = false → jb6 l on n f = sts)) (n + 1) (⟨g7, g6, 0, true, jad n f, rfl, rfl, H.reidx [4, 2, 1, 0, 3] (by decide) rfl, by simp [jad], by omega, fun _ => ⟨by have h1 : unk (jad n f) ≤ (jad n f).length := List.countP_le_length; simp [jad] at h1 ⊢; omega, rfl⟩, fun h => by cases h⟩) ?_
 clear H
 rintro k u w ⟨gg, gd, d, g, sts, h6, h7, H, hst, hd, hg1, hg2⟩
 refine WP.know (t := 6) h6 (WP.know (t := 7) h7 ?_)
 refine Y.qq<|Y.J H 3 rfl<|Y.z ?_
 refine WP.cond rfl (fun hc4 => ?_) (fun hc4 => ?_)
 ·subst hc4
  obtain ⟨hk, hfin⟩ := hg1 rfl
  clear hg1 hg2
  refine Y.k<|Y.q<|WP.block<|Y.qr<|Y.ss 3 H rfl (cB rfl) rfl ?_
  clear H; intro w H
  refine Y.z<|Y.r<|Y.O H 0 rfl<|Y.v (Ev.makeFunc) ?_
  have hfr : ∀ g ∈ [g5, gd, gg, g11], w0.heap.size ≤ g := fun g hg => H.fresh g (List.mem_cons_of_mem _ hg)
  have hA : l ≠ [] → Off A [g5, gd, gg, g11] := hz.off (fun _ => by simp [arcCells]) hfr
  have hB : on ≠ [] → Off B [g5, gd, gg, g11] := ho.off hfr
  have hvF : ∀ i (h : i < l.length) (h2 : i < on.length) (s : RSt) w, s.1.length = n → on[i] < l[i].cap → SH w [g5, gd, gg, g11] w (jcr g5 gd gg g11 n d s) → Calls Tryz.prog 164 ([I l[i].f, I l[i].t, I i, I (l[i].cap - on[i]), I l[i].cost, .bool true] ++ [Value.pointer (some ⟨g5, 0, none⟩), Value.pointer (some ⟨gd, 0, none⟩), Value.pointer (some ⟨gg, 0, none⟩)]).toArray w fun e w' => e = .returned (.tuple #[]) ∧ SH w [g5, gd, gg, g11] w' (jcr g5 gd gg g11 n d (jdG d s l[i].f l[i].t i (l[i].cap - on[i]) l[i].cost true)) := by
   intro i h h2 s w hs _ Hw
   obtain ⟨⟨p1, p2⟩, p3, p4⟩ := hnode i h
   obtain ⟨ai, hai⟩ := Int.eq_ofNat_of_zero_le p1
   obtain ⟨bi, hbi⟩ := Int.eq_ofNat_of_zero_le p3
   rw [hai, hbi]
   exact jfJ g5 gd gg g11 n ai bi d _ _ i true s w hs (by omega) (by omega) (by omega) (by omega) Hw
  have hvB : ∀ i (h : i < l.length) (h2 : i < on.length) (s : RSt) w, s.1.length = n → 0 < on[i] → SH w [g5, gd, gg, g11] w (jcr g5 gd gg g11 n d s) → Calls Tryz.prog 164 ([I l[i].t, I l[i].f, I i, I on[i], I (-l[i].cost), .bool false] ++ [Value.pointer (some ⟨g5, 0, none⟩), Value.pointer (some ⟨gd, 0, none⟩), Value.pointer (some ⟨gg, 0, none⟩)]).toArray w fun e w' => e = .returned (.tuple #[]) ∧ SH w [g5, gd, gg, g11] w' (jcr g5 gd gg g11 n d (jdG d s l[i].t l[i].f i on[i] (-l[i].cost) false)) := by
   intro i h h2 s w hs _ Hw
   obtain ⟨⟨p1, p2⟩, p3, p4⟩ := hnode i h
   obtain ⟨ai, hai⟩ := Int.eq_ofNat_of_zero_le p1
   obtain ⟨bi, hbi⟩ := Int.eq_ofNat_of_zero_le p3
   rw [hai, hbi]
   exact jfJ g5 gd gg g11 n bi ai d _ _ i false s w hs (by omega) (by omega) (by omega) (by omega) Hw
  refine Y.c2 22 rfl (jmS (jdG d) (jcr g5 gd gg g11 n d) [g5, gd, gg, g11] (fun _ => rfl) (fun s => s.1.length = n) 164 [.pointer (some ⟨g5, 0, none⟩), .pointer (some ⟨gd, 0, none⟩), .pointer (some ⟨gg, 0, none⟩)] n A B l on cap cap2 (sts, false) _ rfl (hz.sh H) hA (ho.sh H) hB hlen hl hcap hon hvF (fun i _ _ s hs _ => by rw [jdF]; exact hs) hvB (fun i _ _ s hs _ => by rw [jdF]; exact hs) hst (H.restart Y.sc)) ?_
  rintro _ w ⟨rfl, Hc⟩
  refine ⟨_, rfl, ?_⟩
  replace H := SH.call (L1 := [⟨g2, 174, [I n, .slice A l.length cap, .slice B on.length cap2]⟩]) (Lv := jcr g5 gd gg g11 n d (sts, false)) H Hc
  clear Hc
  have hinv := jeb l on d sts
  have hstep : jcv (jdG d) l on l.length (sts, false) = jbu l on d sts := rfl
  rw [hstep] at H
  generalize hr : jbu l on d sts = r at H hinv
  unfold jcr at H
  refine Y.z<|Y.qq<|Y.J H 2 rfl<|Y.J H 3 rfl<|Y.z<|Y.r<|Y.al H rfl rfl ?_
  clear H; intro g6 w H
  refine Y.ss 0 H rfl (cI rfl) rfl ?_
  clear H; intro w H
  refine Y.al H rfl rfl ?_
  clear H; intro g7 w H
  refine Y.ss 0 H rfl (cB rfl) rfl ?_
  clear H; intro w H
  refine Y.z ?_
  replace H := H.reidx (L' := [⟨g2, 174, [I n, .slice A l.length cap, .slice B on.length cap2]⟩, ⟨g5, 175, [.slice (some ⟨g11, 0, none⟩) n n]⟩, ⟨g6, 3, [I d]⟩, ⟨g7, 4, [Bo r.2]⟩, ⟨g11, 179, r.1.flatMap y2⟩]) [2, 3, 1, 0, 6] (by decide) rfl
  refine Y.r<|Y.J H 2 rfl<|Y.P rfl<|Y.ss 2 H rfl (cI rfl) rfl ?_
  clear H; intro w H
  refine Y.z ?_
  have hk1 : ∃ k', k = k' + 1 := ⟨k - 1, by omega⟩
  obtain ⟨k', rfl⟩ := hk1
  refine ⟨Y.ag, k', by omega, g7, g6, d + 1, r.2, r.1, rfl, rfl, H, by rw [hinv.1, hst], by omega, fun hr2 => ⟨by have := hinv.2.2 hr2; omega, ?_⟩, fun hr2 => ?_⟩
  ·rw [hfin, jcf, hr, if_pos hr2]; rfl
  ·rw [hfin, jcf, hr, if_neg (by simp [hr2])]
 refine WP.exit<|XB.hit<|Y.qr<|Y.J H 1 rfl<|Y.aS rfl<|Y.z ?_
 refine WP.ret ⟨_, rfl, ?_⟩
 subst hc4
 rw [hg2 rfl]
 exact ⟨g11, rfl, H.reidx [4] (by decide) rfl⟩
end Go.Proofs.YtgcokllbophkkaaGreat.Flo
namespace Go.Proofs.YtgcokllbophkkaaGreat.Flo
open Go Go.W Go.RowKit
def jkk (sts : List Step) (f m : Nat) : List Nat → Nat → Prop
 | [], k => k = f
 | x :: xs, k => k = x ∧ k ≠ f ∧ k < sts.length ∧ ∃ p ai : Nat, (sts.getD k default).from_ = p ∧ (sts.getD k default).arc = ai ∧ ai < m ∧ jkk sts f m xs p
def jfa (a b : Int) : Int := if b < a then b else a
def jai (sts : List Step) (ks : List Nat) (most : Int) : Int := ks.foldl (fun m k => jfa m (sts.getD k default).room) most
def jb8 (sts : List Step) (M : Int) (on : List Int) (k : Nat) : List Int :=
 let s := sts.getD k default
 on.set s.arc.toNat (if s.fwd = true then on.getD s.arc.toNat 0 + M else on.getD s.arc.toNat 0 - M)
def ja0 (sts : List Step) (ks : List Nat) (M : Int) (on : List Int) : List Int := ks.foldl (jb8 sts M) on
theorem jaW (sts : List Step) (M : Int) (on : List Int) (k : Nat) : (jb8 sts M on k).length = on.length := by simp [jb8]
theorem jbo (sts : List Step) (M : Int) : ∀ (ks : List Nat) (on : List Int), (ja0 sts ks M on).length = on.length
 | [], _ => rfl
 | k :: ks, on => by unfold ja0; rw [List.foldl_cons]; exact (jbo sts M ks _).trans (jaW sts M on k)
theorem jil (gon : Nat) (A As : Option Addr) (la cap cap2 cap3 : Nat) (n f t most : Int) (fn tn : Nat) (hf : f = fn) (ht : t = tn) (sts : List Step) (on : List Int) (ks : List Nat) (w0 : World)
  (hs : k8 6 y2 w0 As sts) (hoff : sts ≠ [] → Off As [gon]) (hch : jkk sts fn on.length ks tn) (hks : ks.length ≤ 1000)
  (hM : -1000000 ≤ jai sts ks most ∧ jai sts ks most ≤ 1000000) (hon : ∀ i (h : i < on.length), -1000000000 ≤ on[i] ∧ on[i] ≤ 1000000000)
  (H0 : SH w0 [gon] w0 [⟨gon, 3, on.map I⟩]) :
  Calls Tryz.prog 115 #[.agg #[I n, .slice A la cap, .slice (some ⟨gon, 0, none⟩) on.length cap2], .slice As sts.length cap3, I f, I t, I most] w0
   fun e w' => e = .returned (I (jai sts ks most)) ∧ SH w0 [gon] w' [⟨gon, 3, (ja0 sts ks (jai sts ks most) on).map I⟩] := by
 subst hf ht
 have H := H0
 refine Calls.ofWP Tryz.func115 rfl Tryz.results115 Tryz.ntmps115 rfl<|Y.qr<|Y.bx (cA rfl) H ?_
 clear H; intro g5 w H
 refine Y.bz rfl<|Y.qq<|Y.a rfl<|Y.bz rfl<|WP.block<|WP.loop [4, 11, 14, 15, 16, 17, 18, 19, 20, 21, 22, 23, 24, 25, 26, 27, 28] (fun g e w' => w' = w ∧ ∃ (k : Nat) (m : Int) (xs : List Nat), xs.length = g ∧ e 11 = I k ∧ e 4 = I m ∧ jkk sts fn on.length xs k ∧ jai sts xs m = jai sts ks most) (ks.length) (⟨rfl, tn, most, ks, rfl, rfl, rfl, hch, rfl⟩) ?_
 rintro g u w' ⟨rfl, k, m, xs, hg, h11, h4, hc, hm⟩
 refine WP.know (t := 11) h11 (WP.know (t := 4) h4 ?_)
 refine Y.qq<|Y.a rfl<|Y.a rfl<|Y.V rfl<|Y.z ?_
 refine WP.cond rfl (fun hc2 => ?_) (fun hc2 => ?_)
 ·have hkf : k ≠ fn := by intro he; simp [he] at hc2
  obtain ⟨x, xs, rfl⟩ : ∃ x xs', xs = x :: xs' := by
   cases xs with
   | nil => exact absurd hc hkf
   | cons x xs => exact ⟨x, xs, rfl⟩
  obtain ⟨rfl, _, hkl, p, ai, hp, hai, hal, hc⟩ := hc
  have hgd : sts.getD k default = sts[k] := by simp [hkl]
  rw [hgd] at hp hai
  obtain ⟨b, o, rfl, hrow⟩ := hs k hkl
  have hb : b ∉ [gon] := hoff (List.ne_nil_of_length_pos (by omega)) b o rfl
  obtain ⟨a0, a1, a2, a3, a4, a5, _⟩ := jbT H hb hrow
  refine Y.k<|Y.q<|WP.block<|Y.r<|Y.a rfl<|Y.sS rfl<|Y.a rfl<|Y.U rfl<|Y.F rfl<|Y.v (Y.c (by assumption) rfl) ?_
  refine Y.v (Ev.min rfl rfl)<|Y.bz rfl<|Y.r<|Y.sS rfl<|Y.a rfl<|Y.U rfl<|Y.F rfl<|Y.v (Y.c (by assumption) rfl) ?_
  refine Y.bz rfl ?_
  have hm2 : jai sts xs (jfa m sts[k].room) = jai sts ks most := by rw [← hm]; simp only [jai, List.foldl_cons, hgd]
  simp only [List.length_cons] at hg
  exact ⟨Y.ag, xs.length, by omega, rfl, p, jfa m sts[k].room, xs, rfl, by rw [← hp]; rfl, rfl, hc, hm2⟩
 have hkf : k = fn := by simp at hc2; omega
 have hxs : xs = [] := by
  cases xs with
  | nil => rfl
  | cons x xs => exact absurd hkf hc.2.1
 subst hxs
 have hm' : m = jai sts ks most := hm
 subst hm'
 generalize hMM : jai sts ks most = M at *
 refine WP.exit<|XB.hit<|Y.qq<|Y.a rfl<|Y.bz rfl<|WP.block<|WP.loop [12, 30, 31, 32, 33, 34, 35, 36, 37, 38, 39, 40, 41, 42, 43, 44, 45, 46, 47, 48, 49, 50, 51, 52, 53, 54, 55, 56, 57, 58, 59, 60, 61, 62, 63, 64, 65, 66] (fun g e w' => ∃ (k : Nat) (on' : List Int) (xs : List Nat), xs.length = g ∧ g ≤ ks.length ∧ e 12 = I k ∧ SH w0 [gon] w' [⟨g5, 174, [I n, .slice A la cap, .slice (some ⟨gon, 0, none⟩) on.length cap2]⟩, ⟨gon, 3, on'.map I⟩] ∧ jkk sts fn on.length xs k ∧ on'.length = on.length ∧ ja0 sts xs M on' = ja0 sts ks M on ∧ ∀ i (h : i < on'.length), -1000000000 - 1000000 * ((ks.length : Int) - g) ≤ on'[i] ∧ on'[i] ≤ 1000000000 + 1000000 * ((ks.length : Int) - g)) (ks.length) (⟨tn, on, ks, rfl, Nat.le_refl _, rfl, H, hch, rfl, rfl, fun i h => by have := hon i h; omega⟩) ?_
 clear H
 rintro g u2 w ⟨k, on', xs, hg, hgle, h12, H, hc, hol, hpo, hob⟩
 refine WP.know (t := 12) h12<|Y.qq<|Y.a rfl<|Y.a rfl<|Y.V rfl<|Y.z ?_
 refine WP.cond rfl (fun hc6 => ?_) (fun hc6 => ?_)
 ·have hkf : k ≠ fn := by intro he; simp [he] at hc6
  obtain ⟨x, xs, rfl⟩ : ∃ x xs', xs = x :: xs' := by
   cases xs with
   | nil => exact absurd hc hkf
   | cons x xs => exact ⟨x, xs, rfl⟩
  obtain ⟨rfl, _, hkl, p, ai, hp, hai, hal, hc⟩ := hc
  have hgd : sts.getD k default = sts[k] := by simp [hkl]
  rw [hgd] at hp hai
  obtain ⟨b, o, rfl, hrow⟩ := hs k hkl
  have hb : b ∉ [gon] := hoff (List.ne_nil_of_length_pos (by omega)) b o rfl
  obtain ⟨a0, a1, a2, a3, a4, a5, _⟩ := hrow
  rw [hp] at a0
  rw [hai] at a1
  have hal' : ai < on'.length := by omega
  have hob1 := hob ai hal'
  have hgd2 : on'.getD ai 0 = on'[ai] := by simp [hal']
  simp only [List.length_cons] at hg
  refine Y.k<|Y.q<|WP.block<|Y.qr<|Y.sS rfl<|Y.a rfl<|Y.U rfl<|Y.F rfl<|Y.v (Y.c (H.ldS (by assumption) (by assumption)) rfl) ?_
  refine Y.z ?_
  refine WP.cond rfl (fun hc8 => ?_) (fun hc8 => ?_)
  ·refine WP.rtail 12 mixed (by kernel_rfl) H ?_
   clear H; intro w hbw9 H
   obtain ⟨_, _, e1, hx⟩ := y9 H 1 rfl ai hal'
   cases e1
   refine Y.W H 0 rfl<|Y.sS rfl<|Y.a rfl<|Y.U rfl<|Y.F rfl<|Y.v (Y.c (H.ldS (by assumption) (by assumption)) rfl) ?_
   refine Y.I rfl<|Y.v (Y.c (by assumption) rfl) ?_
   refine Y.a rfl<|Y.P rfl<|Y.I rfl<|OPS.nil_s<|OPS.store 1 _ rfl rfl rfl (j4 rfl) rfl (cI rfl) rfl rfl H rfl (by simp; omega) ?_
   clear H; intro w H
   have hpl := jae (enc := I) on' ai (on'[ai] + M)
   rw [Nat.zero_add] at H
   replace H : SH w0 [gon] w [⟨g5, 174, [I n, .slice A la cap, .slice (some ⟨gon, 0, none⟩) on.length cap2]⟩, ⟨gon, 3, jam (on'.map I) ai [I (on'[ai] + M)]⟩] := H
   rw [hpl] at H
   have hp1 : jb8 sts M on' k = on'.set ai (on'[ai] + M) := by simp only [jb8, hgd, hai, Int.toNat_natCast, hgd2, hc8, if_true]
   refine Y.z<|Y.r<|Y.sS rfl<|Y.a rfl<|Y.U rfl<|Y.F rfl<|Y.v (Y.c (H.ldS (by assumption) (by assumption)) rfl) ?_
   refine Y.bz rfl ?_
   rw [← hp1] at H
   refine ⟨Y.ag, xs.length, by omega, p, jb8 sts M on' k, xs, rfl, by omega, rfl, H, hc, by rw [jaW]; exact hol, by rw [← hpo]; simp only [ja0, List.foldl_cons], fun i h => ?_⟩
   have hi : i < on'.length := by rw [jaW] at h; exact h
   have hh := hob i hi
   simp only [hp1, List.getElem_set]
   split
   ·rename_i he; subst he; omega
   ·omega
  refine WP.rtail 12 mixed (by kernel_rfl) H ?_
  clear H; intro w hbw10 H
  obtain ⟨_, _, e1, hx⟩ := y9 H 1 rfl ai hal'
  cases e1
  refine Y.W H 0 rfl<|Y.sS rfl<|Y.a rfl<|Y.U rfl<|Y.F rfl<|Y.v (Y.c (H.ldS (by assumption) (by assumption)) rfl) ?_
  refine Y.I rfl<|Y.v (Y.c (by assumption) rfl) ?_
  refine Y.a rfl<|Y.Q rfl<|Y.I rfl<|OPS.nil_s<|OPS.store 1 _ rfl rfl rfl (j4 rfl) rfl (cI rfl) rfl rfl H rfl (by simp; omega) ?_
  clear H; intro w H
  have hpl := jae (enc := I) on' ai (on'[ai] - M)
  rw [Nat.zero_add] at H
  replace H : SH w0 [gon] w [⟨g5, 174, [I n, .slice A la cap, .slice (some ⟨gon, 0, none⟩) on.length cap2]⟩, ⟨gon, 3, jam (on'.map I) ai [I (on'[ai] - M)]⟩] := H
  rw [hpl] at H
  have hp1 : jb8 sts M on' k = on'.set ai (on'[ai] - M) := by simp only [jb8, hgd, hai, Int.toNat_natCast, hgd2, hc8]; rfl
  refine Y.z<|Y.r<|Y.sS rfl<|Y.a rfl<|Y.U rfl<|Y.F rfl<|Y.v (Y.c (H.ldS (by assumption) (by assumption)) rfl) ?_
  refine Y.bz rfl ?_
  rw [← hp1] at H
  refine ⟨Y.ag, xs.length, by omega, p, jb8 sts M on' k, xs, rfl, by omega, rfl, H, hc, by rw [jaW]; exact hol, by rw [← hpo]; simp only [ja0, List.foldl_cons], fun i h => ?_⟩
  have hi : i < on'.length := by rw [jaW] at h; exact h
  have hh := hob i hi
  simp only [hp1, List.getElem_set]
  split
  ·rename_i he; subst he; omega
  ·omega
 refine WP.exit<|XB.hit<|Y.qr<|Y.a rfl<|Y.bz rfl ?_
 refine WP.ret ⟨_, rfl, ?_⟩
 have hkf : k = fn := by simp at hc6; omega
 have hxs : xs = [] := by
  cases xs with
  | nil => rfl
  | cons x xs => exact absurd hkf hc.2.1
 subst hxs
 rw [← hpo]
 exact ⟨rfl, H.drop Y.sc⟩
end Go.Proofs.YtgcokllbophkkaaGreat.Flo
namespace Go.Proofs.YtgcokllbophkkaaGreat.Flo
open Go Go.W
def y8 (p : Int → Int) : List Arc → List Int → Int
 | a :: l, x :: on => x * (p a.f - p a.t) + y8 p l on
 | _, _ => 0
def ind (v : Int) : Int → Int := fun u => if u = v then 1 else 0
def jar (n : Nat) (l : List Arc) : Prop := ∀ a ∈ l, (0 ≤ a.f ∧ a.f < n) ∧ (0 ≤ a.t ∧ a.t < n)
structure jaP (l : List Arc) (on : List Int) : Prop where
 len : on.length = l.length
 bd : ∀ i (h : i < l.length) (h2 : i < on.length), 0 ≤ on[i] ∧ on[i] ≤ l[i].cap
structure IsFlow (n : Nat) (l : List Arc) (s t : Int) (on : List Int) (amt : Int) : Prop where
 v : jaP l on
 cons : ∀ u : Int, 0 ≤ u → u < n → u ≠ s → u ≠ t → y8 (ind u) l on = 0
 amt : y8 (ind s) l on = amt
def jaI (S : Int → Bool) : List Arc → Int
 | [] => 0
 | a :: l => (if (S a.f && !S a.t) = true then a.cap else 0) + jaI S l
def sumTo (f : Int → Int) : Nat → Int
 | 0 => 0
 | n + 1 => sumTo f n + f n
theorem jcd (n : Nat) : sumTo (fun _ => 0) n = 0 := by
 induction n with
 | zero => rfl
 | succ n ih => simp [sumTo, ih]
theorem jgp (f g : Int → Int) (n : Nat) : sumTo (fun u => f u + g u) n = sumTo f n + sumTo g n := by
 induction n with
 | zero => rfl
 | succ n ih => simp only [sumTo, ih]; omega
theorem sumTo_congr {f g : Int → Int} {n : Nat} (h : ∀ u : Int, 0 ≤ u → u < n → f u = g u) : sumTo f n = sumTo g n := by
 induction n with
 | zero => rfl
 | succ n ih => simp only [sumTo]; rw [ih fun u h1 h2 => h u h1 (by omega), h n (by omega) (by omega)]
theorem jes (q : Int → Int) (v : Int) (c : Int) : ∀ n : Nat, 0 ≤ v → v < n → sumTo (fun u => q u * (c * ind u v)) n = q v * c
 | 0, h0, h => by omega
 | n + 1, h0, h => by
  simp only [sumTo]
  by_cases hv : v = n
  ·subst hv
   have : sumTo (fun u => q u * (c * ind u (n : Int))) n = sumTo (fun _ => 0) n := sumTo_congr fun u h1 h2 => by
    rw [show ind u (n : Int) = 0 from if_neg (by omega)]; simp
   rw [this, jcd]; simp [ind]
  ·rw [jes q v c n h0 (by omega)]; simp [ind, hv]
theorem jer (n : Nat) (p : Int → Int) : ∀ (l : List Arc) (on : List Int), jar n l → y8 p l on = sumTo (fun u => p u * y8 (ind u) l on) n
 | [], on, _ => by simp [y8, jcd]
 | a :: l, [], _ => by simp [y8, jcd]
 | a :: l, x :: on, h => by
  have ha := h a (List.mem_cons_self ..)
  have ih := jer n p l on fun b hb => h b (List.mem_cons_of_mem _ hb)
  have e1 : sumTo (fun u => p u * y8 (ind u) (a :: l) (x :: on)) n = sumTo (fun u => p u * (x * ind u a.f)) n + (sumTo (fun u => p u * (-x * ind u a.t)) n + sumTo (fun u => p u * y8 (ind u) l on) n) := by
   rw [← jgp, ← jgp]
   refine sumTo_congr fun u _ _ => ?_
   simp only [y8, Int.mul_add, Int.mul_sub, Int.neg_mul, Int.mul_neg]
   omega
  rw [e1, jes p a.f x n ha.1.1 ha.1.2, jes p a.t (-x) n ha.2.1 ha.2.2, ← ih]
  simp only [y8, Int.mul_sub, Int.mul_neg, Int.mul_comm]
  omega
theorem jcW (f : Int → Int) (v : Int) : ∀ n : Nat, 0 ≤ v → v < n → (∀ u : Int, 0 ≤ u → u < n → u ≠ v → f u = 0) → sumTo f n = f v
 | 0, h0, h, _ => by omega
 | n + 1, h0, h, hz => by
  simp only [sumTo]
  by_cases hv : v = n
  ·subst hv
   rw [show sumTo f n = sumTo (fun _ => 0) n from sumTo_congr fun u h1 h2 => hz u h1 (by omega) (by omega), jcd]; omega
  ·rw [jcW f v n h0 (by omega) fun u h1 h2 h3 => hz u h1 (by omega) h3, hz n (by omega) (by omega) (fun h => hv h.symm)]; omega
def jgm (S : Int → Bool) : Int → Int := fun u => if S u = true then 1 else 0
theorem IsFlow.set {n : Nat} {l : List Arc} {s t : Int} {on : List Int} {amt : Int} (hf : IsFlow n l s t on amt) (hn : jar n l) (hs : 0 ≤ s ∧ s < n) {S : Int → Bool} (h1 : S s = true) (h2 : S t = false) : y8 (jgm S) l on = amt := by
 rw [jer n _ l on hn, jcW _ s n hs.1 hs.2, hf.amt]
 ·simp [jgm, h1]
 ·intro u hu0 hu1 hus
  by_cases hut : u = t
  ·subst hut; simp [jgm, h2]
  ·rw [hf.cons u hu0 hu1 hus hut]; simp
theorem jdM (S : Int → Bool) : ∀ (l : List Arc) (on : List Int), jaP l on → y8 (jgm S) l on ≤ jaI S l
 | [], [], _ => by simp [y8, jaI]
 | a :: l, x :: on, h => by
  have h0 := h.bd 0 (by simp) (by simp)
  simp only [List.getElem_cons_zero] at h0
  have ih := jdM S l on ⟨by simpa using h.len, fun i hi hi2 => h.bd (i + 1) (Nat.succ_lt_succ hi) (Nat.succ_lt_succ hi2)⟩
  simp only [y8, jaI, jgm]
  cases S a.f <;> cases S a.t <;> simp <;> omega
 | [], _ :: _, h => by have := h.len; simp at this
 | _ :: _, [], h => by have := h.len; simp at this
theorem jdf {n : Nat} {l : List Arc} {s t : Int} {on : List Int} {amt : Int} (hf : IsFlow n l s t on amt) (hn : jar n l) (hs : 0 ≤ s ∧ s < n) {S : Int → Bool} (h1 : S s = true) (h2 : S t = false) : amt ≤ jaI S l := by
 rw [← hf.set hn hs h1 h2]; exact jdM S l on hf.v
theorem jb7 (S : Int → Bool) : ∀ (l : List Arc) (on : List Int), on.length = l.length → (∀ i (h : i < l.length) (h2 : i < on.length), (S l[i].f = true → S l[i].t = false → on[i] = l[i].cap) ∧ (S l[i].f = false → S l[i].t = true → on[i] = 0)) → y8 (jgm S) l on = jaI S l
 | [], [], _, _ => by simp [y8, jaI]
 | a :: l, x :: on, hl, h => by
  have h0 := h 0 (by simp) (by simp)
  simp only [List.getElem_cons_zero] at h0
  have ih := jb7 S l on (by simpa using hl) fun i hi hi2 => h (i + 1) (Nat.succ_lt_succ hi) (Nat.succ_lt_succ hi2)
  simp only [y8, jaI, jgm]
  cases hf : S a.f <;> cases ht : S a.t <;> simp [hf, ht] at h0 ⊢ <;> omega
 | [], _ :: _, h, _ => by simp at h
 | _ :: _, [], h, _ => by simp at h
theorem jfM (p : Int → Int) : ∀ (l : List Arc) (on : List Int) (i : Nat) (x : Int) (h : i < l.length) (h2 : i < on.length), y8 p l (on.set i x) = y8 p l on + (x - on[i]) * (p l[i].f - p l[i].t)
 | [], _, _, _, h, _ => by simp at h
 | _ :: _, [], _, _, _, h => by simp at h
 | a :: l, y :: on, 0, x, _, _ => by simp only [List.set_cons_zero, y8, List.getElem_cons_zero, Int.sub_mul]; omega
 | a :: l, y :: on, i + 1, x, h, h2 => by
  simp only [List.set_cons_succ, y8, List.getElem_cons_succ]
  rw [jfM p l on i x (by simpa using h) (by simpa using h2)]; omega
theorem jcF (S : Int → Bool) : ∀ l : List Arc, (∀ a ∈ l, 0 ≤ a.cap) → 0 ≤ jaI S l
 | [], _ => by simp [jaI]
 | a :: l, h => by
  have := jcF S l fun b hb => h b (List.mem_cons_of_mem _ hb)
  have := h a (List.mem_cons_self ..)
  simp only [jaI]; split <;> omega
theorem jgv (S : Int → Bool) : ∀ l : List Arc, (∀ a ∈ l, 0 ≤ a.cap ∧ a.cap ≤ 65536) → jaI S l ≤ 65536 * l.length
 | [], _ => by simp [jaI]
 | a :: l, h => by
  have := jgv S l fun b hb => h b (List.mem_cons_of_mem _ hb)
  have := h a (List.mem_cons_self ..)
  simp only [jaI, List.length_cons]; split <;> omega
def jcK (n : Nat) (l : List Arc) (s t amt : Int) : Prop := (∃ on, IsFlow n l s t on amt) ∧ ∃ S : Int → Bool, S s = true ∧ S t = false ∧ jaI S l = amt
theorem jcK.unique {n : Nat} {l : List Arc} {s t a b : Int} (hn : jar n l) (hs : 0 ≤ s ∧ s < n) (ha : jcK n l s t a) (hb : jcK n l s t b) : a = b := by
 obtain ⟨⟨on, h1⟩, S, h2, h3, h4⟩ := ha
 obtain ⟨⟨on', g1⟩, S', g2, g3, g4⟩ := hb
 have := jdf h1 hn hs g2 g3
 have := jdf g1 hn hs h2 h3
 omega
end Go.Proofs.YtgcokllbophkkaaGreat.Flo
namespace Go.Proofs.YtgcokllbophkkaaGreat.Flo
open Go Go.W
def kn (sts : List Step) (v : Nat) : Bool := (sts.getD v default).known
def dp (sts : List Step) (v : Nat) : Int := (sts.getD v default).depth
def Edge (l : List Arc) (on : List Int) (x : Step) (p v : Nat) : Prop :=
 x.from_ = p ∧ ∃ ai : Nat, x.arc = ai ∧ ∃ (h : ai < l.length) (h2 : ai < on.length),
  (x.fwd = true → l[ai].f = p ∧ l[ai].t = v ∧ x.room = l[ai].cap - on[ai] ∧ on[ai] < l[ai].cap) ∧ (x.fwd = false → l[ai].t = p ∧ l[ai].f = v ∧ x.room = on[ai] ∧ 0 < on[ai])
structure BI (l : List Arc) (on : List Int) (n : Nat) (d : Int) (sts0 r : List Step) : Prop where
 len : r.length = n
 old : ∀ v, v < n → kn sts0 v = true → r.getD v default = sts0.getD v default
 new : ∀ v, v < n → kn r v = true → kn sts0 v = false → dp r v = d + 1 ∧ ∃ p, p < n ∧ kn sts0 p = true ∧ dp sts0 p = d ∧ Edge l on (r.getD v default) p v
theorem jco {sts : List Step} {b v : Nat} {x : Step} (hb : b < sts.length) : (sts.set b x).getD v default = if b = v then x else sts.getD v default := by
 by_cases h : b = v
 ·subst h; simp [hb]
 ·simp [h, List.getElem?_set]
theorem jnr {l : List Arc} {on : List Int} {n : Nat} {d : Int} {sts0 : List Step} {r : RSt} (h : BI l on n d sts0 r.1) {a b : Nat} (ha : a < n) (hb : b < n) {arc : Nat} {room cost : Int} {fwd : Bool}
  (hE : Edge l on ⟨a, arc, room, fwd, true, d + 1⟩ a b) :
  BI l on n d sts0 (jdG d r a b arc room cost fwd).1 ∧ (kn sts0 a = true → dp sts0 a = d → kn (jdG d r a b arc room cost fwd).1 b = true) ∧ ∀ v, kn r.1 v = true → kn (jdG d r a b arc room cost fwd).1 v = true := by
 have hbl : b < r.1.length := by rw [h.len]; exact hb
 unfold jdG
 simp only [Int.toNat_natCast]
 by_cases hc : jma d r a b = true
 ·simp only [hc, if_true]
  unfold jma at hc
  simp only [Bool.and_eq_true, Bool.not_eq_true', decide_eq_true_eq] at hc
  obtain ⟨⟨⟨h1, h2⟩, h3⟩, _⟩ := hc
  have hka : kn sts0 a = true := by
   cases hk : kn sts0 a with
   | true => rfl
   | false => have := (h.new a ha h1 hk).1; unfold dp at this; omega
  have hea := h.old a ha hka
  refine ⟨⟨by simp [h.len], fun v hv hkv => ?_, fun v hv hkv hk0 => ?_⟩, fun _ _ => by simp [kn, hbl], fun v hv => ?_⟩
  ·rw [jco hbl]
   split
   ·rename_i he; subst he
    have := h.old b hv hkv
    unfold kn at hkv
    rw [this] at h3; rw [h3] at hkv; cases hkv
   ·exact h.old v hv hkv
  ·unfold dp
   rw [jco hbl]
   by_cases he : b = v
   ·subst he
    simp only [if_true]
    exact ⟨trivial, a, ha, hka, by rw [← hea]; exact h2, hE⟩
   ·simp only [if_neg he]
    have hkv' : kn r.1 v = true := by unfold kn at hkv ⊢; rw [jco hbl, if_neg he] at hkv; exact hkv
    exact h.new v hv hkv' hk0
  ·unfold kn at hv ⊢
   rw [jco hbl]; split
   ·rfl
   ·exact hv
 ·simp only [hc]
  refine ⟨h, fun hka hda => ?_, fun _ hv => hv⟩
  have hea := h.old a ha hka
  cases hkb : kn r.1 b with
  | true => simpa using hkb
  | false =>
   exfalso; apply hc
   unfold jma
   unfold kn at hkb hka
   unfold dp at hda
   simp only [hea, hka, hda, hkb, hbl, decide_true, Bool.not_false, Bool.and_self]
def Done (l : List Arc) (on : List Int) (d : Int) (sts0 r : List Step) (i : Nat) : Prop :=
 ∀ (h : i < l.length) (h2 : i < on.length), (on[i] < l[i].cap → kn sts0 l[i].f.toNat = true → dp sts0 l[i].f.toNat = d → kn r l[i].t.toNat = true) ∧ (0 < on[i] → kn sts0 l[i].t.toNat = true → dp sts0 l[i].t.toNat = d → kn r l[i].f.toNat = true)
theorem jii {l : List Arc} {on : List Int} {n : Nat} {d : Int} {sts0 : List Step} (hn : jar n l) (hlen : on.length = l.length) (h0 : sts0.length = n) :
  ∀ k, k ≤ l.length → BI l on n d sts0 (jcv (jdG d) l on k (sts0, false)).1 ∧ ∀ i, i < k → Done l on d sts0 (jcv (jdG d) l on k (sts0, false)).1 i
 | 0, _ => ⟨⟨h0, fun _ _ _ => rfl, fun v _ h1 h2 => by rw [show kn sts0 v = true from h1] at h2; cases h2⟩, fun i hi => absurd hi (by omega)⟩
 | k + 1, hk => by
  obtain ⟨ih1, ih2⟩ := jii hn hlen h0 k (by omega)
  have hkl : k < l.length := by omega
  have hko : k < on.length := by omega
  rw [jcB _ l on k _ hkl hko]
  generalize jcv (jdG d) l on k (sts0, false) = r at ih1 ih2
  obtain ⟨⟨f0, f1⟩, t0, t1⟩ := hn l[k] (List.getElem_mem hkl)
  obtain ⟨a, ha⟩ := Int.eq_ofNat_of_zero_le f0
  obtain ⟨b, hb⟩ := Int.eq_ofNat_of_zero_le t0
  have han : a < n := by omega
  have hbn : b < n := by omega
  have s1 : BI l on n d sts0 (jff (jdG d) k l[k] on[k] r).1 ∧ (on[k] < l[k].cap → kn sts0 a = true → dp sts0 a = d → kn (jff (jdG d) k l[k] on[k] r).1 b = true) ∧ ∀ v, kn r.1 v = true → kn (jff (jdG d) k l[k] on[k] r).1 v = true := by
   unfold jff
   by_cases hc : on[k] < l[k].cap
   ·rw [if_pos hc, ha, hb]
    have hE : Edge l on ⟨a, k, l[k].cap - on[k], true, true, d + 1⟩ a b := ⟨rfl, k, rfl, hkl, hko, fun _ => ⟨ha, hb, rfl, hc⟩, fun h => by cases h⟩
    obtain ⟨g1, g2, g3⟩ := jnr ih1 han hbn (cost := l[k].cost) hE
    exact ⟨g1, fun _ => g2, g3⟩
   ·rw [if_neg hc]; exact ⟨ih1, fun h => absurd h hc, fun _ h => h⟩
  generalize jff (jdG d) k l[k] on[k] r = r1 at s1
  obtain ⟨b1, d1, m1⟩ := s1
  have s2 : BI l on n d sts0 (jdz (jdG d) k l[k] on[k] r1).1 ∧ (0 < on[k] → kn sts0 b = true → dp sts0 b = d → kn (jdz (jdG d) k l[k] on[k] r1).1 a = true) ∧ ∀ v, kn r1.1 v = true → kn (jdz (jdG d) k l[k] on[k] r1).1 v = true := by
   unfold jdz
   by_cases hc : 0 < on[k]
   ·rw [if_pos hc, ha, hb]
    have hE : Edge l on ⟨b, k, on[k], false, true, d + 1⟩ b a := ⟨rfl, k, rfl, hkl, hko, (fun h => by cases h), fun _ => ⟨hb, ha, rfl, hc⟩⟩
    obtain ⟨g1, g2, g3⟩ := jnr b1 hbn han (cost := -l[k].cost) hE
    exact ⟨g1, fun _ => g2, g3⟩
   ·rw [if_neg hc]; exact ⟨b1, fun h => absurd h hc, fun _ h => h⟩
  obtain ⟨b2, d2, m2⟩ := s2
  refine ⟨b2, fun i hi h h2 => ?_⟩
  rcases Nat.lt_succ_iff_lt_or_eq.1 hi with hlt | rfl
  ·obtain ⟨q1, q2⟩ := ih2 i hlt h h2
   exact ⟨fun u1 u2 u3 => m2 _ (m1 _ (q1 u1 u2 u3)), fun u1 u2 u3 => m2 _ (m1 _ (q2 u1 u2 u3))⟩
  ·rw [ha, hb]
   simp only [Int.toNat_natCast]
   exact ⟨fun u1 u2 u3 => m2 _ (d1 u1 u2 u3), d2⟩
structure GI (l : List Arc) (on : List Int) (n s : Nat) (d : Int) (sts : List Step) : Prop where
 len : sts.length = n
 src : kn sts s = true
 bd : ∀ v, v < n → kn sts v = true → 0 ≤ dp sts v ∧ dp sts v ≤ d
 edge : ∀ v, v < n → kn sts v = true → v ≠ s → ∃ p, p < n ∧ kn sts p = true ∧ dp sts p < dp sts v ∧ Edge l on (sts.getD v default) p v
 clo : ∀ i (h : i < l.length) (h2 : i < on.length), (on[i] < l[i].cap → kn sts l[i].f.toNat = true → dp sts l[i].f.toNat < d → kn sts l[i].t.toNat = true) ∧ (0 < on[i] → kn sts l[i].t.toNat = true → dp sts l[i].t.toNat < d → kn sts l[i].f.toNat = true)
theorem GI_step {l : List Arc} {on : List Int} {n s : Nat} {d : Int} {sts : List Step} (hn : jar n l) (hlen : on.length = l.length) (h : GI l on n s d sts) (hs : s < n) (hd : 0 ≤ d) :
  GI l on n s (d + 1) (jbu l on d sts).1 := by
 obtain ⟨hb, hdone⟩ := jii (d := d) hn hlen h.len l.length (Nat.le_refl _)
 have he : jcv (jdG d) l on l.length (sts, false) = jbu l on d sts := rfl
 rw [he] at hb hdone
 generalize (jbu l on d sts).1 = r at hb hdone
 have hmono : ∀ v, v < n → kn sts v = true → kn r v = true ∧ dp r v = dp sts v := fun v hv hk => by
  have := hb.old v hv hk
  exact ⟨by unfold kn at hk ⊢; rw [this]; exact hk, by unfold dp; rw [this]⟩
 refine ⟨hb.len, (hmono s hs h.src).1, fun v hv hk => ?_, fun v hv hk hvs => ?_, fun i hi hi2 => ?_⟩
 ·cases h0 : kn sts v with
  | true => have := h.bd v hv h0; rw [(hmono v hv h0).2]; omega
  | false => have := (hb.new v hv hk h0).1; omega
 ·cases h0 : kn sts v with
  | true =>
   obtain ⟨p, hp, hkp, hdp, hE⟩ := h.edge v hv h0 hvs
   exact ⟨p, hp, (hmono p hp hkp).1, by rw [(hmono p hp hkp).2, (hmono v hv h0).2]; exact hdp, by rw [hb.old v hv h0]; exact hE⟩
  | false =>
   obtain ⟨h1, p, hp, hkp, hdp, hE⟩ := hb.new v hv hk h0
   exact ⟨p, hp, (hmono p hp hkp).1, by rw [(hmono p hp hkp).2]; omega, hE⟩
 ·obtain ⟨⟨f0, f1⟩, t0, t1⟩ := hn l[i] (List.getElem_mem hi)
  have hfn : l[i].f.toNat < n := by omega
  have htn : l[i].t.toNat < n := by omega
  obtain ⟨c1, c2⟩ := h.clo i hi hi2
  obtain ⟨e1, e2⟩ := hdone i hi hi hi2
  have back : ∀ v, v < n → kn r v = true → dp r v < d + 1 → kn sts v = true ∧ dp sts v ≤ d := fun v hv hk hdv => by
   cases h0 : kn sts v with
   | true => exact ⟨rfl, (h.bd v hv h0).2⟩
   | false => have := (hb.new v hv hk h0).1; omega
  refine ⟨fun u1 u2 u3 => ?_, fun u1 u2 u3 => ?_⟩
  ·obtain ⟨k1, k2⟩ := back _ hfn u2 u3
   by_cases hdd : dp sts l[i].f.toNat = d
   ·exact e1 u1 k1 hdd
   ·exact (hmono _ htn (c1 u1 k1 (by omega))).1
  ·obtain ⟨k1, k2⟩ := back _ htn u2 u3
   by_cases hdd : dp sts l[i].t.toNat = d
   ·exact e2 u1 k1 hdd
   ·exact (hmono _ hfn (c2 u1 k1 (by omega))).1
structure Reached (l : List Arc) (on : List Int) (n s : Nat) (sts : List Step) : Prop where
 len : sts.length = n
 src : kn sts s = true
 pos : ∀ v, v < n → kn sts v = true → 0 ≤ dp sts v ∧ dp sts v ≤ n
 edge : ∀ v, v < n → kn sts v = true → v ≠ s → ∃ p, p < n ∧ kn sts p = true ∧ dp sts p < dp sts v ∧ Edge l on (sts.getD v default) p v
 clo : ∀ i (h : i < l.length) (h2 : i < on.length), (on[i] < l[i].cap → kn sts l[i].f.toNat = true → kn sts l[i].t.toNat = true) ∧ (0 < on[i] → kn sts l[i].t.toNat = true → kn sts l[i].f.toNat = true)
theorem jdu {l : List Arc} {on : List Int} {n s : Nat} (hn : jar n l) (hlen : on.length = l.length) (hs : s < n) : ∀ (f : Nat) (d : Int) (sts : List Step), 0 ≤ d → unk sts < f → d + unk sts ≤ n → GI l on n s d sts → Reached l on n s (jcf l on f d sts)
 | 0, _, _, _, hu, _, _ => absurd hu (by omega)
 | f + 1, d, sts, hd, hu, hB, h => by
  have hstep := GI_step hn hlen h hs hd
  have hinv := jeb l on d sts
  rw [jcf]
  cases hr : (jbu l on d sts).2 with
  | true =>
   simp only [if_true]
   exact jdu hn hlen hs f (d + 1) _ (by omega) (by have := hinv.2.2 hr; omega) (by have := hinv.2.2 hr; omega) hstep
  | false =>
   have he := hinv.2.1 hr
   simp only [Bool.false_eq_true, if_false]
   rw [he] at hstep ⊢
   refine ⟨h.len, h.src, fun v hv hk => by have := h.bd v hv hk; omega, h.edge, fun i hi hi2 => ?_⟩
   obtain ⟨⟨f0, f1⟩, t0, t1⟩ := hn l[i] (List.getElem_mem hi)
   obtain ⟨c1, c2⟩ := hstep.clo i hi hi2
   exact ⟨fun u1 u2 => c1 u1 u2 (by have := (h.bd _ (show l[i].f.toNat < n by omega) u2).2; omega), fun u1 u2 => c2 u1 u2 (by have := (h.bd _ (show l[i].t.toNat < n by omega) u2).2; omega)⟩
theorem jcM {l : List Arc} {on : List Int} {n s : Nat} (hn : jar n l) (hlen : on.length = l.length) (hs : s < n) : Reached l on n s (jb6 l on n s) := by
 have hk : ∀ v, v < n → (kn (jad n s) v = true ↔ v = s) ∧ (v = s → dp (jad n s) v = 0) := fun v hv => by
  unfold kn dp jad
  rw [jco (by simpa using hs)]
  by_cases h : s = v
  ·subst h; simp
  ·simp [h, hv, Ne.symm h]
 have hu1 : unk (jad n s) ≤ n := by
  have h1 : unk (jad n s) ≤ (jad n s).length := List.countP_le_length
  simpa [jad] using h1
 refine jdu hn hlen hs (n + 1) 0 _ (by omega) (by omega) (by omega) ⟨by simp [jad], ((hk s hs).1).2 rfl, fun v hv hkv => ?_, fun v hv hkv hvs => absurd (((hk v hv).1).1 hkv) hvs, fun i hi hi2 => ?_⟩
 ·have := (hk v hv).2 (((hk v hv).1).1 hkv); omega
 ·obtain ⟨⟨f0, f1⟩, t0, t1⟩ := hn l[i] (List.getElem_mem hi)
  refine ⟨fun _ u2 u3 => ?_, fun _ u2 u3 => ?_⟩
  ·have := (hk _ (show l[i].f.toNat < n by omega)).2 (((hk _ (by omega)).1).1 u2); omega
  ·have := (hk _ (show l[i].t.toNat < n by omega)).2 (((hk _ (by omega)).1).1 u2); omega
end Go.Proofs.YtgcokllbophkkaaGreat.Flo
namespace Go.Proofs.YtgcokllbophkkaaGreat.Flo
open Go Go.W
def jfo (rk : Nat → Int) (l : List Arc) (on : List Int) (n s : Nat) (sts : List Step) : List Nat → Nat → Prop
 | [], k => k = s
 | x :: xs, k => k = x ∧ k ≠ s ∧ k < n ∧ ∃ p, p < n ∧ rk p < rk k ∧ Edge l on (sts.getD k default) p k ∧ jfo rk l on n s sts xs p
structure Tree (rk : Nat → Int) (l : List Arc) (on : List Int) (n s : Nat) (sts : List Step) : Prop where
 pos : ∀ v, v < n → kn sts v = true → 0 ≤ rk v ∧ rk v ≤ n
 edge : ∀ v, v < n → kn sts v = true → v ≠ s → ∃ p, p < n ∧ kn sts p = true ∧ rk p < rk v ∧ Edge l on (sts.getD v default) p v
theorem Reached.tree {l : List Arc} {on : List Int} {n s : Nat} {sts : List Step} (h : Reached l on n s sts) : Tree (dp sts) l on n s sts := ⟨h.pos, h.edge⟩
theorem jfk {rk : Nat → Int} {l : List Arc} {on : List Int} {n s : Nat} {sts : List Step} (h : Tree rk l on n s sts) : ∀ (m : Nat) (v : Nat), v < n → kn sts v = true → rk v ≤ m → ∃ ks, ks.length ≤ m ∧ jfo rk l on n s sts ks v
 | 0, v, hv, hk, hm => by
  by_cases hvs : v = s
  ·exact ⟨[], by simp, hvs⟩
  ·obtain ⟨p, hp, hkp, hdp, _⟩ := h.edge v hv hk hvs
   have := (h.pos p hp hkp).1; omega
 | m + 1, v, hv, hk, hm => by
  by_cases hvs : v = s
  ·exact ⟨[], by simp, hvs⟩
  ·obtain ⟨p, hp, hkp, hdp, hE⟩ := h.edge v hv hk hvs
   obtain ⟨ks, hl, hP⟩ := jfk h m p hp hkp (by omega)
   exact ⟨v :: ks, by simp; omega, rfl, hvs, hv, p, hp, hdp, hE, hP⟩
theorem jfo.chain {rk : Nat → Int} {l : List Arc} {on : List Int} {n s : Nat} {sts : List Step} (hlen : sts.length = n) (hol : on.length = l.length) : ∀ {ks : List Nat} {v : Nat}, jfo rk l on n s sts ks v → jkk sts s on.length ks v
 | [], _, h => h
 | x :: xs, v, ⟨h1, h2, h3, p, hp, hdp, hE, hP⟩ => by
  obtain ⟨e1, ai, e2, e3, e4, _⟩ := hE
  exact ⟨h1, h2, by omega, p, ai, e1, e2, by omega, jfo.chain hlen hol hP⟩
theorem jfo.deep {rk : Nat → Int} {l : List Arc} {on : List Int} {n s : Nat} {sts : List Step} : ∀ {ks : List Nat} {v : Nat}, jfo rk l on n s sts ks v → ∀ x ∈ ks, rk x ≤ rk v
 | [], _, _, x, hx => by cases hx
 | y :: xs, v, ⟨h1, _, _, p, _, hdp, _, hP⟩, x, hx => by
  rcases List.mem_cons.1 hx with rfl | hx
  ·rw [h1]; exact Int.le_refl _
  ·have := jfo.deep hP x hx; omega
theorem jfo.edge {rk : Nat → Int} {l : List Arc} {on : List Int} {n s : Nat} {sts : List Step} : ∀ {ks : List Nat} {v : Nat}, jfo rk l on n s sts ks v → ∀ x ∈ ks, ∃ p, rk p < rk x ∧ Edge l on (sts.getD x default) p x
 | [], _, _, x, hx => by cases hx
 | y :: xs, v, ⟨h1, _, _, p, _, hdp, hE, hP⟩, x, hx => by
  rcases List.mem_cons.1 hx with rfl | hx
  ·subst h1; exact ⟨p, hdp, hE⟩
  ·exact jfo.edge hP x hx
theorem jjc {rk : Nat → Int} {l : List Arc} {on : List Int} {sts : List Step} {x y px py : Nat} (hx : Edge l on (sts.getD x default) px x) (hy : Edge l on (sts.getD y default) py y) (dx : rk px < rk x) (dy : rk py < rk y)
  (hlt : rk x < rk y) : (sts.getD x default).arc ≠ (sts.getD y default).arc := by
 obtain ⟨_, ax, ex, hx1, hx2, fx, bx⟩ := hx
 obtain ⟨_, ay, ey, hy1, hy2, fy, by_⟩ := hy
 intro he
 rw [ex, ey] at he
 have he : ax = ay := by omega
 subst he
 cases h1 : (sts.getD x default).fwd <;> cases h2 : (sts.getD y default).fwd
 ·have g1 := bx h1; have g2 := by_ h2
  have : x = y := by omega
  subst this; omega
 ·have g1 := bx h1; have g2 := fy h2
  have e1 : x = py := by omega
  have e2 : px = y := by omega
  subst e1 e2; omega
 ·have g1 := fx h1; have g2 := by_ h2
  have e1 : x = py := by omega
  have e2 : px = y := by omega
  subst e1 e2; omega
 ·have g1 := fx h1; have g2 := fy h2
  have : x = y := by omega
  subst this; omega
theorem jko (a b : Int) : jfa a b ≤ a ∧ jfa a b ≤ b ∧ (0 < a → 0 < b → 0 < jfa a b) := by unfold jfa; split <;> omega
theorem jbz (sts : List Step) : ∀ (ks : List Nat) (m : Int), 0 < m → (∀ x ∈ ks, 0 < (sts.getD x default).room) → 0 < jai sts ks m ∧ jai sts ks m ≤ m ∧ ∀ x ∈ ks, jai sts ks m ≤ (sts.getD x default).room
 | [], m, hm, _ => ⟨hm, Int.le_refl _, fun x hx => by cases hx⟩
 | k :: ks, m, hm, h => by
  have h1 := jko m (sts.getD k default).room
  obtain ⟨g1, g2, g3⟩ := jbz sts ks (jfa m (sts.getD k default).room) (h1.2.2 hm (h k (List.mem_cons_self ..))) fun x hx => h x (List.mem_cons_of_mem _ hx)
  have e : jai sts (k :: ks) m = jai sts ks (jfa m (sts.getD k default).room) := rfl
  rw [e]
  refine ⟨g1, by omega, fun x hx => ?_⟩
  rcases List.mem_cons.1 hx with rfl | hx
  ·omega
  ·exact g3 x hx
theorem Edge.room_pos {l : List Arc} {on : List Int} {x : Step} {p v : Nat} (h : Edge l on x p v) : 0 < x.room := by
 obtain ⟨_, ai, _, h1, h2, hf, hb⟩ := h
 cases hx : x.fwd with
 | true => have := hf hx; omega
 | false => have := hb hx; omega
theorem jdN {rk : Nat → Int} {l : List Arc} {on : List Int} {n s : Nat} {sts : List Step} {M : Int} (hM : 0 ≤ M) (pot : Int → Int) : ∀ (ks : List Nat) (v : Nat) (on0 : List Int), jfo rk l on n s sts ks v → (∀ x ∈ ks, M ≤ (sts.getD x default).room) → jaP l on0 →
  (∀ x ∈ ks, on0.getD (sts.getD x default).arc.toNat 0 = on.getD (sts.getD x default).arc.toNat 0) →
  jaP l (ja0 sts ks M on0) ∧ y8 pot l (ja0 sts ks M on0) = y8 pot l on0 + M * (pot s - pot v)
 | [], v, on0, hP, _, hv, _ => by
  have : v = s := hP
  subst this
  exact ⟨hv, by simp [ja0]⟩
 | k :: ks, v, on0, ⟨h1, h2, h3, p, hp, hdp, hE, hP⟩, hr, hv, hag => by
  subst h1
  have hE0 := hE
  obtain ⟨e1, ai, e2, e3, e4, hf, hb⟩ := hE
  have hlen := hv.len
  have hai : ai < on0.length := by omega
  have hrv := hr v (List.mem_cons_self ..)
  have hagv := hag v (List.mem_cons_self ..)
  have hbd := hv.bd ai e3 hai
  rw [e2] at hagv
  simp only [Int.toNat_natCast, List.getD_eq_getElem?_getD, List.getElem?_eq_getElem hai, List.getElem?_eq_getElem e4, Option.getD_some] at hagv
  obtain ⟨y, hy, hy0, hy1, hyn⟩ : ∃ y, jb8 sts M on0 v = on0.set ai y ∧ 0 ≤ y ∧ y ≤ l[ai].cap ∧ (y - on0[ai]) * (pot l[ai].f - pot l[ai].t) = M * (pot p - pot v) := by
   have hg : on0.getD ai 0 = on0[ai] := by simp [hai]
   cases hx : (sts.getD v default).fwd with
   | true =>
    obtain ⟨g1, g2, g3, g4⟩ := hf hx
    refine ⟨on0[ai] + M, by simp only [jb8, e2, Int.toNat_natCast, hx, if_true, hg], by omega, by omega, ?_⟩
    rw [g1, g2, show on0[ai] + M - on0[ai] = M by omega]
   | false =>
    obtain ⟨g1, g2, g3, g4⟩ := hb hx
    refine ⟨on0[ai] - M, by simp only [jb8, e2, Int.toNat_natCast, hx, hg]; rfl, by omega, by omega, ?_⟩
    rw [g1, g2, show on0[ai] - M - on0[ai] = -M by omega, Int.neg_mul, ← Int.mul_neg, Int.neg_sub]
  have hv1 : jaP l (jb8 sts M on0 v) := by
   rw [hy]
   refine ⟨by simpa using hlen, fun i h h' => ?_⟩
   rw [List.getElem_set]
   split
   ·rename_i he; subst he; exact ⟨hy0, hy1⟩
   ·exact hv.bd i h (by simpa using h')
  have hag1 : ∀ x ∈ ks, (jb8 sts M on0 v).getD (sts.getD x default).arc.toNat 0 = on.getD (sts.getD x default).arc.toNat 0 := by
   intro x hx
   rw [← hag x (List.mem_cons_of_mem _ hx), hy]
   obtain ⟨px, dpx, hEx⟩ := jfo.edge hP x hx
   have hdx := jfo.deep hP x hx
   have hne := jjc hEx hE0 dpx hdp (by omega)
   obtain ⟨_, ax, ex2, _⟩ := hEx
   rw [e2, ex2] at hne
   rw [ex2]
   have : ai ≠ ax := by omega
   simp [List.getElem?_set, this]
  obtain ⟨i1, i2⟩ := jdN hM pot ks p (jb8 sts M on0 v) hP (fun x hx => hr x (List.mem_cons_of_mem _ hx)) hv1 hag1
  have e : ja0 sts (v :: ks) M on0 = ja0 sts ks M (jb8 sts M on0 v) := rfl
  rw [e]
  refine ⟨i1, ?_⟩
  rw [i2, hy, jfM pot l on0 ai y e3 hai, hyn, Int.mul_sub, Int.mul_sub, Int.mul_sub]
  omega
theorem jcj {rk : Nat → Int} {l : List Arc} {on : List Int} {n s t : Nat} {sts : List Step} {M amt : Int} (hM : 0 ≤ M) (hst : s ≠ t) {ks : List Nat} (hP : jfo rk l on n s sts ks t) (hr : ∀ x ∈ ks, M ≤ (sts.getD x default).room) (hf : IsFlow n l s t on amt) :
  IsFlow n l s t (ja0 sts ks M on) (amt + M) := by
 have hv := (jdN hM (fun _ => 0) ks t on hP hr hf.v fun _ _ => rfl).1
 have hpot := fun pot => (jdN hM pot ks t on hP hr hf.v fun _ _ => rfl).2
 refine ⟨hv, fun u h0 h1 h2 h3 => ?_, ?_⟩
 ·rw [hpot, hf.cons u h0 h1 h2 h3]
  have e1 : ind u (s : Int) = 0 := if_neg (fun h => h2 h.symm)
  have e2 : ind u (t : Int) = 0 := if_neg (fun h => h3 h.symm)
  rw [e1, e2]; simp
 ·rw [hpot, hf.amt]
  have e1 : ind (s : Int) (s : Int) = 1 := if_pos rfl
  have e2 : ind (s : Int) (t : Int) = 0 := if_neg (by omega)
  rw [e1, e2]; omega
theorem jcE {l : List Arc} {on : List Int} {n s t : Nat} {sts : List Step} {amt : Int} (hn : jar n l) (hs : s < n) (h : Reached l on n s sts) (hf : IsFlow n l s t on amt) (ht : kn sts t = false) : jcK n l s t amt := by
 refine ⟨⟨on, hf⟩, fun u => kn sts u.toNat, by simpa using h.src, by simpa using ht, ?_⟩
 rw [← jb7 _ l on hf.v.len fun i hi hi2 => ?_]
 ·exact hf.set hn ⟨by omega, by omega⟩ (by simpa using h.src) (by simpa using ht)
 ·obtain ⟨c1, c2⟩ := h.clo i hi hi2
  have hb := hf.v.bd i hi hi2
  refine ⟨fun u1 u2 => ?_, fun u1 u2 => ?_⟩
  ·rcases Int.lt_or_eq_of_le hb.2 with hlt | he
   ·rw [c1 hlt u1] at u2; cases u2
   ·exact he
  ·rcases Int.lt_or_eq_of_le hb.1 with hlt | he
   ·rw [c2 hlt u2] at u1; cases u1
   ·exact he.symm
theorem jcL {n : Nat} {l : List Arc} {s t : Int} (hc : ∀ a ∈ l, 0 ≤ a.cap) : IsFlow n l s t (List.replicate l.length 0) 0 := by
 have hz : ∀ (p : Int → Int) (l : List Arc), y8 p l (List.replicate l.length 0) = 0 := by
  intro p l
  induction l with
  | nil => rfl
  | cons a l ih => simp [List.replicate_succ, y8, ih]
 exact ⟨⟨by simp, fun i h h2 => by simp; exact hc _ (List.getElem_mem h)⟩, fun u _ _ _ _ => hz _ l, hz _ l⟩
end Go.Proofs.YtgcokllbophkkaaGreat.Flo
namespace Go.Proofs.YtgcokllbophkkaaGreat.Flo
open Go Go.W Go.RowKit
structure NetOk (n : Nat) (l : List Arc) : Prop where
 n1 : 1 ≤ n
 n2 : n ≤ 64
 len : l.length ≤ 512
 nodes : jar n l
 caps : ∀ a ∈ l, (0 ≤ a.cap ∧ a.cap ≤ 65536) ∧ (0 ≤ a.cost ∧ a.cost ≤ 65536)
theorem jjD {n : Nat} {l : List Arc} {s t : Int} {on : List Int} {amt : Int} (hN : NetOk n l) (hs : 0 ≤ s ∧ s < n) (hst : s ≠ t) (hf : IsFlow n l s t on amt) : amt ≤ 65536 * l.length := by
 have h := jdf hf hN.nodes hs (S := fun u => decide (u = s)) (by simp) (by simp; omega)
 have := jgv (fun u => decide (u = s)) l fun a ha => (hN.caps a ha).1
 omega
theorem jg0 (n s t : Nat) (A : Option Addr) (l : List Arc) (cap : Nat) (w0 : World) (hN : NetOk n l) (hs : s < n) (ht : t < n) (hst : s ≠ t) (hz : ArcsAt w0 A l) :
  Calls Tryz.prog 131 #[.agg #[I n, .slice A l.length cap], I s, I t] w0
   fun e w' => ∃ (gon : Nat) (on : List Int) (amt : Int), e = .returned (.tuple #[.agg #[I n, .slice A l.length cap, .slice (some ⟨gon, 0, none⟩) l.length l.length], I amt]) ∧ on.length = l.length ∧ IsFlow n l s t on amt ∧ jcK n l s t amt ∧ SH w0 [] w' [⟨gon, 3, on.map I⟩] := by
 have H := SH.refl w0
 have hlen := hN.len
 have hn2 := hN.n2
 refine Calls.ofWPc Tryz.func131 rfl Tryz.results131 Tryz.ntmps131 rfl<|Y.qr<|Y.bx (cA rfl) H ?_
 clear H; intro g3 w H
 refine Y.al H rfl rfl ?_
 clear H; intro g6 w H
 refine Y.bz rfl<|Y.q ?_
 refine WP.rheldC [8, 11, 12, 13, 14, 15, 16] (fun u w' => ∃ g8 g15 : Nat, u 8 = .pointer (some ⟨g8, 0, none⟩) ∧ SH w0 [] w' [⟨g8, 174, [I n, .slice A l.length cap, .slice (some ⟨g15, 0, none⟩) l.length l.length]⟩, ⟨g6, 174, [I 0, .slice none 0 0, .slice none 0 0]⟩, ⟨g15, 3, (List.replicate l.length 0).map I⟩]) mixed H ?_ ?_
 ·clear H; intro w hbw1 H
  refine Y.t 0 H rfl rfl (fun w H => Y.o H 1 rfl rfl)<|Y.tf 1 H rfl<|Y.tl 2 H 1 rfl<|Y.t 3 H rfl rfl (fun w H => Y.n rfl) ?_
  refine Y.A2 4 6 rfl rfl rfl ?_ ?_
  ·refine Y.M H rfl ?_
   clear H; intro g15 w H
   refine Y.z <| ⟨(H.drop Y.sc), ?_⟩
   refine Y.t 5 (H.drop Y.sc) rfl rfl (fun w H => Ev.build (jbw rfl rfl))<|Y.A1 6 rfl rfl<|Y.al H rfl rfl ?_
   clear H; intro g8 w H
   refine Y.z <| ⟨(H.drop (Y.sc.trans Y.sc)), ?_⟩
   refine Y.A1 7 rfl rfl<|Y.ss 0 H rfl (cA rfl) rfl ?_
   clear H; intro w H
   refine Y.z <| ⟨(H.drop (Y.sc.trans Y.sc)), ?_⟩
   refine Y.dn ?_
   refine ⟨Y.ag, g8, g15, rfl, ?_⟩; rw [← jag]; exact H.reidx [0, 2, 1] (by decide) rfl
  ·refine Y.al H rfl rfl ?_
   clear H; intro g8 w H
   refine Y.z <| ⟨(H.drop Y.sc), ?_⟩
   refine Y.A1 4 rfl rfl<|Y.M H rfl ?_
   clear H; intro g15 w H
   refine Y.z <| ⟨(H.drop (Y.sc.trans Y.sc)), ?_⟩
   refine Y.t 5 (H.drop (Y.sc.trans Y.sc)) rfl rfl (fun w H => Ev.build (jbw rfl rfl))<|Y.A1 7 rfl rfl<|Y.ss 1 H rfl (cA rfl) rfl ?_
   clear H; intro w H
   refine Y.z <| ⟨(H.drop (Y.sc.trans Y.sc)), ?_⟩
   refine Y.dn ?_
   refine ⟨Y.ag, g8, g15, rfl, ?_⟩; rw [← jag]; exact H.reidx [1, 2, 0] (by decide) rfl
 clear H
 rintro u w ⟨g8, g15, h8, H⟩
 refine WP.know (t := 8) h8<|Y.qr<|Y.bz rfl<|WP.block<|WP.loop [7, 9, 10, 17, 18, 19, 20, 21, 22, 23, 24, 25, 26, 27, 28, 29, 30, 31, 32, 33, 34] (fun k e w' => ∃ (on : List Int) (amt : Int), on.length = l.length ∧ e 9 = I amt ∧ 0 ≤ amt ∧ IsFlow n l s t on amt ∧ amt + k = 65536 * l.length ∧ SH w0 [] w' [⟨g8, 174, [I n, .slice A l.length cap, .slice (some ⟨g15, 0, none⟩) l.length l.length]⟩, ⟨g6, 174, [I 0, .slice none 0 0, .slice none 0 0]⟩, ⟨g15, 3, on.map I⟩]) (65536 * l.length) (⟨List.replicate l.length 0, 0, by simp, rfl, by omega, jcL fun a ha => (hN.caps a ha).1.1, by simp, H⟩) ?_
 clear H
 rintro k u2 w ⟨on, amt, hol, h9, ham, hfl, hk, H⟩
 refine WP.know (t := 9) h9 ?_
 have hamt := jjD hN ⟨by omega, by omega⟩ (by omega) hfl
 have hob : ∀ i (h : i < on.length), 0 ≤ on[i] ∧ on[i] ≤ 65536 := fun i h => by
  have h1 := hfl.v.bd i (by omega) h
  have h2 := (hN.caps l[i] (List.getElem_mem (by omega))).1
  omega
 have hsp := jcM (s := s) (on := on) hN.nodes hol hs
 refine WP.block<|Y.qr<|Y.O H 0 rfl<|Y.a rfl ?_
 have hfr := jkE n s A (some ⟨g15, 0, none⟩) l on cap l.length w hs hn2 (hz.sh H) (y9 H 2 rfl) hol (by omega) (fun i h => by have := hN.caps l[i] (List.getElem_mem h); omega) (fun i h => by have := hob i h; omega) (fun i h => hN.nodes l[i] (List.getElem_mem h))
 rw [hol] at hfr
 refine Y.c2 19 rfl (hfr) ?_
 rintro _ w ⟨ga, rfl, Hc⟩
 refine ⟨_, rfl, ?_⟩
 replace H := SH.call (L1 := [⟨g8, 174, [I n, .slice A l.length cap, .slice (some ⟨g15, 0, none⟩) l.length l.length]⟩, ⟨g6, 174, [I 0, .slice none 0 0, .slice none 0 0]⟩, ⟨g15, 3, on.map I⟩]) (Lv := []) (by simpa using H) Hc
 clear Hc hfr
 generalize hst2 : jb6 l on n s = sts at H hsp
 replace H := H.reidx (L' := [⟨g8, 174, [I n, .slice A l.length cap, .slice (some ⟨g15, 0, none⟩) l.length l.length]⟩, ⟨g6, 174, [I 0, .slice none 0 0, .slice none 0 0]⟩, ⟨ga, 179, sts.flatMap y2⟩, ⟨g15, 3, on.map I⟩]) [0, 1, 3, 2] (by decide) rfl
 have hrow := jbF jaj H 2 rfl
 have hsl := hsp.len
 refine Y.aS rfl<|Y.z<|Y.q<|Y.q ?_
 obtain ⟨_, _, e1, b0, b1, b2, b3, b4, b5, _⟩ := hrow t (by omega)
 cases e1
 have hkt : kn sts t = sts[t].known := by unfold kn; simp [hsl, ht]
 refine Y.r<|Y.sS rfl<|Y.a rfl<|Y.U rfl<|Y.F rfl<|Y.v (Y.c (by assumption) rfl) ?_
 refine Y.v (Ev.not rfl)<|Y.z ?_
 refine Y.i rfl (fun hc4 => ?_) fun hc4 => ?_
 ·refine Y.qr<|Y.O H 0 rfl<|Y.a rfl<|Y.ss 1 H rfl (cA rfl) rfl ?_
  clear H; intro w H
  refine Y.bz rfl ?_
  refine WP.ret ⟨[_, _], ⟨(by exact x6 1 H rfl (j6 rfl) (j4 rfl) (by rfl) rfl), rfl, trivial⟩, ?_⟩
  have hkf : kn sts t = false := by rw [hkt]; simpa using hc4
  exact ⟨g15, on, amt, rfl, hol, hfl, jcE hN.nodes hs hsp hfl hkf, H.reidx [3] (by decide) rfl⟩
 have hkf : kn sts t = true := by rw [hkt]; simpa using hc4
 obtain ⟨ks, hkl, hP⟩ := jfk hsp.tree n t ht hkf (hsp.pos t ht hkf).2
 obtain ⟨m1, m2, m3⟩ := jbz sts ks 65536 (by omega) fun x hx => by obtain ⟨p, _, hE⟩ := hP.edge x hx; exact hE.room_pos
 have hfl2 := jcj (by omega) hst hP m3 hfl
 have hamt2 := jjD hN ⟨by omega, by omega⟩ (by omega) hfl2
 have hga : ga ≠ g15 := by have := H.nodup; simp at this; exact this.2.2
 refine Y.k<|Y.r<|Y.a rfl<|Y.O H 0 rfl<|Y.sS rfl<|Y.a rfl<|Y.a rfl ?_
 have hpu := jil g15 A (some ⟨ga, 0, none⟩) l.length cap l.length n n s t 65536 s t rfl rfl sts on ks w hrow (fun _ b o he => by cases he; simpa using hga) (hP.chain hsl hol) (by omega) (by omega) (fun i h => by have := hob i h; omega) (H.restart (L := [⟨g8, 174, [I n, .slice A l.length cap, .slice (some ⟨g15, 0, none⟩) l.length l.length]⟩, ⟨g6, 174, [I 0, .slice none 0 0, .slice none 0 0]⟩, ⟨ga, 179, sts.flatMap y2⟩, ⟨g15, 3, on.map I⟩]) ((((List.Sublist.refl _).cons _).cons _).cons _))
 rw [hol, hsl] at hpu
 refine Y.c2 33 rfl (hpu) ?_
 rintro _ w ⟨rfl, Hc⟩
 refine ⟨_, rfl, ?_⟩
 replace H := SH.call (L1 := [⟨g8, 174, [I n, .slice A l.length cap, .slice (some ⟨g15, 0, none⟩) l.length l.length]⟩, ⟨g6, 174, [I 0, .slice none 0 0, .slice none 0 0]⟩, ⟨ga, 179, sts.flatMap y2⟩]) (Lv := [⟨g15, 3, on.map I⟩]) H Hc
 clear Hc hpu
 refine Y.P rfl<|Y.bz rfl ?_
 exact ⟨Y.ag, k - (jai sts ks 65536).toNat, by omega, ja0 sts ks (jai sts ks 65536) on, amt + jai sts ks 65536, by rw [jbo]; exact hol, rfl, by omega, hfl2, by omega, H.reidx [0, 1, 3] (by decide) rfl⟩
end Go.Proofs.YtgcokllbophkkaaGreat.Flo
namespace Go.Proofs.YtgcokllbophkkaaGreat.Flo
open Go Go.W Go.RowKit
theorem jep {n : Int} : ∀ {l : List Arc}, jbl n l = 0 → ∀ a ∈ l, jcS n a = false ∧ jbE a = false
 | [], _, a, ha => by cases ha
 | b :: l, h, a, ha => by
  rw [jbl] at h
  split at h
  ·cases h
  ·rename_i h1
   split at h
   ·cases h
   ·rename_i h2
    rcases List.mem_cons.1 ha with rfl | ha
    ·exact ⟨by simpa using h1, by simpa using h2⟩
    ·exact jep h a ha
theorem jm4 {n : Int} {l : List Arc} (h : jby n l = 0) : ∃ m : Nat, n = m ∧ NetOk m l := by
 unfold jby at h
 split at h
 ·cases h
 ·rename_i h1
  split at h
  ·cases h
  ·rename_i h2
   have h1 : 1 ≤ n ∧ n ≤ 64 := by simp at h1; omega
   obtain ⟨m, rfl⟩ := Int.eq_ofNat_of_zero_le (show 0 ≤ n by omega)
   refine ⟨m, rfl, by omega, by omega, by simp at h2; omega, fun a ha => ?_, fun a ha => ?_⟩
   ·have := (jep h a ha).1
    simp [jcS, jaV] at this; omega
   ·have := (jep h a ha).2
    simp [jbE] at this; omega
structure jlk (n f t : Int) (l : List Arc) (m s d : Nat) : Prop where
 hn : n = m
 hf : f = s
 ht : t = d
 net : NetOk m l
 s1 : s < m
 d1 : d < m
 ne : s ≠ d
theorem je2 {n f t : Int} {l : List Arc} (h : endsErr n l f t = 0) : ∃ m s d : Nat, jlk n f t l m s d := by
 unfold endsErr at h
 split at h
 ·rename_i h1; exact absurd h h1
 ·rename_i h1
  split at h
  ·cases h
  ·rename_i h2
   split at h
   ·cases h
   ·rename_i h3
    obtain ⟨m, rfl, hN⟩ := jm4 (by simpa using h1)
    simp [jaV] at h2
    obtain ⟨s, rfl⟩ := Int.eq_ofNat_of_zero_le (show 0 ≤ f by omega)
    obtain ⟨d, rfl⟩ := Int.eq_ofNat_of_zero_le (show 0 ≤ t by omega)
    exact ⟨m, s, d, rfl, rfl, rfl, hN, by omega, by omega, by omega⟩
def MostRet (n f t : Int) (l : List Arc) (r e : Int) : Prop := e = endsErr n l f t ∧ (e ≠ 0 → r = 0) ∧ (e = 0 → ∃ m : Nat, n = m ∧ jcK m l f t r)
theorem jl8 (n f t : Int) (A : Option Addr) (l : List Arc) (cap : Nat) (w0 : World) (hz : ArcsAt w0 A l) :
  Calls Tryz.prog 113 #[.agg #[I n, .slice A l.length cap], I f, I t] w0 fun e w' => ∃ r er : Int, e = .returned (.tuple #[I r, I er]) ∧ MostRet n f t l r er ∧ Below w0.heap.size w0 w' := by
 have H := SH.refl w0
 refine Calls.ofWP Tryz.func113 rfl Tryz.results113 Tryz.ntmps113 rfl<|Y.qr<|Y.bx (cA rfl) H ?_
 clear H; intro g3 w H
 refine Y.b rfl<|Y.bz rfl<|Y.qq<|Y.O H 0 rfl<|Y.a rfl<|Y.a rfl<|Y.cl 14 rfl (jlT n f t A l cap w (hz.sh H)) H ?_
 clear H; intro w H
 refine Y.bz rfl<|Y.qr<|Y.a rfl<|Y.V rfl<|Y.z ?_
 refine WP.cond rfl (fun hc2 => ?_) (fun hc2 => ?_)
 ·refine Y.qr<|Y.a rfl<|Y.b rfl<|Y.bz rfl ?_
  refine WP.ret ⟨_, rfl, ?_⟩
  have h : endsErr n l f t ≠ 0 := by simpa using hc2
  exact ⟨0, _, rfl, ⟨rfl, fun _ => rfl, fun h0 => absurd h0 h⟩, H.below⟩
 have h0 : endsErr n l f t = 0 := by simpa using hc2
 obtain ⟨m, s, d, hE⟩ := je2 h0
 have e1 := hE.hn
 have e2 := hE.hf
 have e3 := hE.ht
 subst e1 e2 e3
 refine Y.k<|Y.qr<|Y.O H 0 rfl<|Y.a rfl<|Y.a rfl<|Y.c2 22 rfl (jg0 m s d A l cap w hE.net hE.s1 hE.d1 hE.ne (hz.sh H)) ?_
 rintro _ w ⟨gon, on, amt, rfl, hol, _, hmax, Hc⟩
 refine ⟨_, rfl, ?_⟩
 replace H := SH.call (Lv := []) (by simpa using H) Hc
 clear Hc
 refine Y.T rfl<|Y.G rfl<|Y.G rfl<|Y.al H rfl rfl ?_
 clear H; intro g9 w H
 refine Y.ss 0 H rfl (cA rfl) rfl ?_
 clear H; intro w H
 refine Y.bz rfl<|Y.qr<|Y.a rfl<|Y.b rfl<|Y.bz rfl ?_
 refine WP.ret ⟨_, rfl, ?_⟩
 exact ⟨amt, 0, rfl, ⟨h0.symm, fun h => absurd rfl h, fun _ => ⟨m, rfl, hmax⟩⟩, H.below⟩
end Go.Proofs.YtgcokllbophkkaaGreat.Flo
namespace Go.Proofs.YtgcokllbophkkaaGreat.Flo
open Go Go.W Go.RowKit
theorem jka {σ : Type} (Lv : σ → List Blk) (gs : List Nat) (I1 I2 : Nat → σ → Prop) (fv : Nat) (caps : List Value)
  (n : Int) (A B : Option Addr) (l : List Arc) (on : List Int) (cap cap2 : Nat) (s0 : σ) (w0 : World)
  (hfun : jhU fv = true)
  (hz : ArcsAt w0 A l) (hA : l ≠ [] → Off A gs) (ho : k9 w0 B on) (hB : on ≠ [] → Off B gs) (hlen : on.length = l.length) (hl : l.length ≤ 4096)
  (hcap : ∀ i (h : i < l.length), -1000000 ≤ l[i].cap ∧ l[i].cap ≤ 1000000 ∧ -1000000 ≤ l[i].cost ∧ l[i].cost ≤ 1000000) (hon : ∀ i (h : i < on.length), -1000000000 ≤ on[i] ∧ on[i] ≤ 1000000000)
  (hgs : (Lv s0).map (·.g) = gs)
  (hvF : ∀ i (h : i < l.length) (h2 : i < on.length) s w, I1 i s → on[i] < l[i].cap → SH w0 gs w (Lv s) → SH w ((Lv s).map (·.g)) w (Lv s) → Calls Tryz.prog fv ([I l[i].f, I l[i].t, I i, I (l[i].cap - on[i]), I l[i].cost, .bool true] ++ caps).toArray w fun e w' => e = .returned (.tuple #[]) ∧ ∃ s', I2 i s' ∧ SH w ((Lv s).map (·.g)) w' (Lv s'))
  (hsF : ∀ i (h : i < l.length) (h2 : i < on.length) s, I1 i s → ¬ on[i] < l[i].cap → I2 i s)
  (hvB : ∀ i (h : i < l.length) (h2 : i < on.length) s w, I2 i s → 0 < on[i] → SH w0 gs w (Lv s) → SH w ((Lv s).map (·.g)) w (Lv s) → Calls Tryz.prog fv ([I l[i].t, I l[i].f, I i, I on[i], I (-l[i].cost), .bool false] ++ caps).toArray w fun e w' => e = .returned (.tuple #[]) ∧ ∃ s', I1 (i + 1) s' ∧ SH w ((Lv s).map (·.g)) w' (Lv s'))
  (hsB : ∀ i (h : i < l.length) (h2 : i < on.length) s, I2 i s → ¬ 0 < on[i] → I1 (i + 1) s)
  (hs0 : I1 0 s0) (H0 : SH w0 gs w0 (Lv s0)) :
  Calls Tryz.prog 136 #[.agg #[I n, .slice A l.length cap, .slice B on.length cap2], .func (.func fv) #[] caps.toArray] w0 fun e w' => e = .returned (.tuple #[]) ∧ ∃ s', I1 l.length s' ∧ SH w0 gs w' (Lv s') := by
 have H := H0
 refine Calls.ofWP Tryz.func136 rfl Tryz.results136 Tryz.ntmps136 rfl<|Y.qr<|Y.bx (cA rfl) H ?_
 clear H; intro g2 w H
 refine Y.z<|Y.qr<|Y.F rfl<|Y.W H 0 rfl<|Y.E rfl<|Y.a rfl<|Y.z<|WP.block<|WP.loop [4, 5, 10, 11, 12, 13, 14, 15, 16, 17, 18, 19, 20, 21, 22, 23, 24, 25, 26, 27, 28, 29, 30, 31, 32, 33, 34, 35, 36, 37, 38, 39, 40, 41, 42, 43, 44, 45, 46, 47, 48, 49, 50, 51, 52, 53, 54, 55, 56, 57, 58, 59, 60, 61] (fun k e w' => ∃ (j : Nat) (s : σ), j + k = l.length ∧ e 10 = .int .i64 j ∧ SH w0 gs w' ([⟨g2, 174, [I n, .slice A l.length cap, .slice B on.length cap2]⟩] ++ Lv s) ∧ I1 j s) (l.length) (⟨0, s0, by omega, rfl, H, hs0⟩) ?_
 clear H
 rintro k u w ⟨j, s, hk, h10, H, hi⟩
 refine WP.know (t := 10) h10<|Y.qr<|Y.lt rfl<|Y.z<|Y.q ?_
 refine Y.i rfl (fun hc2 => ?_) fun hc2 => ?_
 ·have hlt : j < l.length := by simpa using hc2
  have hlt2 : j < on.length := by omega
  obtain ⟨b, o, rfl, hc⟩ := hz j hlt
  obtain ⟨b2, o2, rfl, hx⟩ := ho j hlt2
  have hbS : b ∉ gs := hA (List.ne_nil_of_length_pos (by omega)) b o rfl
  have hbS2 : b2 ∉ gs := hB (List.ne_nil_of_length_pos (by omega)) b2 o2 rfl
  have hc' := jbT H hbS hc
  have hcb := hcap j hlt
  have hob := hon j hlt2
  refine Y.k<|Y.q<|WP.block<|Y.qr<|Y.a rfl<|Y.U rfl<|Y.v (by (change Ev _ _ _ _ (Op.load 151 (Operand.tmp 13)) _; exact Ev.loadN (arcCells l[j]) (j6 rfl) (j4 rfl) rfl hc'))<|Y.al H rfl rfl ?_
  clear H; intro g5 w H
  refine Y.b rfl<|Y.ss 0 H rfl (cA rfl) rfl ?_
  clear H; intro w H
  refine Y.z<|Y.q<|Y.q<|WP.rstill mixed (by kernel_rfl) H ?_
  clear H; intro w hbw4 H
  refine Y.W H 1 rfl<|Y.a rfl<|Y.I rfl<|Y.v (Y.c (H.ldS (by assumption) (by assumption)) rfl) ?_
  refine Y.W H 0 rfl<|Y.lt rfl<|OPS.nil_s ?_
  refine Y.i rfl (fun hc4 => ?_) fun hc4 => ?_
  ·refine WP.rtail 16 mixed (by kernel_rfl) H ?_
   clear H; intro w hbw5 H
   refine Y.v (Ev.mvF rfl)<|Y.W H 0 rfl<|Y.W H 0 rfl<|Y.a rfl<|Y.W H 0 rfl<|Y.W H 1 rfl<|Y.a rfl<|Y.I rfl<|Y.v (Y.c (H.ldS (by assumption) (by assumption)) rfl) ?_
   refine Y.Q rfl<|Y.W H 0 rfl<|OPS.nil_s<|OPS.call (d := some 39) rfl rfl rfl (EvC.clos rfl (z7 (by assumption))) (hvF j hlt hlt2 s _ hi (by simpa using hc4) (Y.d2 H) (H.restart (Y.sc.trans Y.sc))) ?_
   rintro _ w ⟨rfl, s1, hi1, Hc⟩
   refine ⟨_, rfl, ?_⟩
   replace H := SH.call (L1 := [⟨g5, 151, arcCells l[j]⟩, ⟨g2, 174, [I n, .slice (some ⟨b, o, none⟩) l.length cap, .slice (some ⟨b2, o2, none⟩) on.length cap2]⟩]) H Hc
   clear Hc hi
   refine Y.z<|Y.qr<|Y.W H 1 rfl<|Y.a rfl<|Y.I rfl<|Y.v (Y.c (H.ldS (by assumption) (by assumption)) rfl) ?_
   refine Y.v (Ev.gtr rfl rfl)<|Y.z ?_
   refine Y.i rfl (fun hc6 => ?_) fun hc6 => ?_
   ·refine WP.rtail 14 mixed (by kernel_rfl) H ?_
    clear H; intro w hbw7 H
    refine Y.v (Ev.mvF rfl)<|Y.W H 0 rfl<|Y.W H 0 rfl<|Y.a rfl<|Y.W H 1 rfl<|Y.a rfl<|Y.I rfl<|Y.v (Y.c (H.ldS (by assumption) (by assumption)) rfl) ?_
    refine Y.W H 0 rfl<|Y.v (Ev.neg rfl (by unfold fits; omega))<|OPS.nil_s<|OPS.call (d := some 60) rfl rfl rfl (EvC.clos rfl (z7 (by assumption))) (hvB j hlt hlt2 s1 _ hi1 (by simpa using hc6) (Y.d2 H) (H.restart (Y.sc.trans Y.sc))) ?_
    rintro _ w ⟨rfl, s2, hi2, Hc⟩
    refine ⟨_, rfl, ?_⟩
    replace H := SH.call (L1 := [⟨g5, 151, arcCells l[j]⟩, ⟨g2, 174, [I n, .slice (some ⟨b, o, none⟩) l.length cap, .slice (some ⟨b2, o2, none⟩) on.length cap2]⟩]) H Hc
    clear Hc
    refine Y.z<|Y.r<|Y.P rfl<|Y.a rfl<|Y.z ?_
    exact ⟨Y.ag, k - 1, by omega, j + 1, _, by omega, rfl, H.drop Y.sc, hi2⟩
   have hi2 := hsB j hlt hlt2 s1 hi1 (by simpa using hc6)
   refine Y.k<|Y.r<|Y.P rfl<|Y.a rfl<|Y.z ?_
   exact ⟨Y.ag, k - 1, by omega, j + 1, _, by omega, rfl, H.drop Y.sc, hi2⟩
  have hi1 := hsF j hlt hlt2 s hi (by simpa using hc4)
  clear hi
  generalize hss : s = s1 at H hi1
  refine Y.k<|Y.qr<|Y.W H 1 rfl<|Y.a rfl<|Y.I rfl<|Y.v (Y.c (H.ldS (by assumption) (by assumption)) rfl) ?_
  refine Y.v (Ev.gtr rfl rfl)<|Y.z ?_
  refine Y.i rfl (fun hc6 => ?_) fun hc6 => ?_
  ·refine WP.rtail 14 mixed (by kernel_rfl) H ?_
   clear H; intro w hbw7 H
   refine Y.v (Ev.mvF rfl)<|Y.W H 0 rfl<|Y.W H 0 rfl<|Y.a rfl<|Y.W H 1 rfl<|Y.a rfl<|Y.I rfl<|Y.v (Y.c (H.ldS (by assumption) (by assumption)) rfl) ?_
   refine Y.W H 0 rfl<|Y.v (Ev.neg rfl (by unfold fits; omega))<|OPS.nil_s<|OPS.call (d := some 60) rfl rfl rfl (EvC.clos rfl (z7 (by assumption))) (hvB j hlt hlt2 s1 _ hi1 (by simpa using hc6) (Y.d2 H) (H.restart (Y.sc.trans Y.sc))) ?_
   rintro _ w ⟨rfl, s2, hi2, Hc⟩
   refine ⟨_, rfl, ?_⟩
   replace H := SH.call (L1 := [⟨g5, 151, arcCells l[j]⟩, ⟨g2, 174, [I n, .slice (some ⟨b, o, none⟩) l.length cap, .slice (some ⟨b2, o2, none⟩) on.length cap2]⟩]) H Hc
   clear Hc
   refine Y.z<|Y.r<|Y.P rfl<|Y.a rfl<|Y.z ?_
   exact ⟨Y.ag, k - 1, by omega, j + 1, _, by omega, rfl, H.drop Y.sc, hi2⟩
  have hi2 := hsB j hlt hlt2 s1 hi1 (by simpa using hc6)
  refine Y.k<|Y.r<|Y.P rfl<|Y.a rfl<|Y.z ?_
  exact ⟨Y.ag, k - 1, by omega, j + 1, _, by omega, rfl, H.drop Y.sc, hi2⟩
 refine WP.exit<|XB.hit <| ⟨_, rfl, ?_⟩
 have : j = l.length := by simp at hc2; omega
 subst this
 exact ⟨rfl, s, hi, H.drop Y.sc⟩
end Go.Proofs.YtgcokllbophkkaaGreat.Flo
