/-
 Walks: the reference's Check.
-/
import Derived.Test.YtgjfjbphngamgaaT1
import Derived.Test.YtgjfjbphngamgaaNest
import Derived.Test.YtgjfjbphngamgaaFacts
set_option linter.all false
namespace Go.Proofs.Ytgjfjbphngamgaa
open Go Go.W Go.RowKit
theorem truckErr1_0 {n : Int} {t : Truck} (h : truckErr1 n t = 0) : truckBad n t = false ∧ truckRange t = false := by
 unfold truckErr1 at h
 split at h
 ·cases h
 ·split at h
  ·cases h
  ·rename_i h1 h2; exact ⟨by simpa using h1, by simpa using h2⟩
theorem needErr1_0 {n : Int} {t : Need} (h : needErr1 n t = 0) : needBad n t = false ∧ needRange t = false := by
 unfold needErr1 at h
 split at h
 ·cases h
 ·split at h
  ·cases h
  ·rename_i h1 h2; exact ⟨by simpa using h1, by simpa using h2⟩
theorem trucksErr_at {n : Int} {l : List Truck} {j : Nat} (hj : j < l.length) (h : ∀ i (hi : i < l.length), i < j → truckBad n l[i] = false ∧ truckRange l[i] = false) (he : truckErr1 n l[j] ≠ 0) : trucksErr n l = truckErr1 n l[j] := by
 rw [trucksErr_drop (by omega) h, List.drop_eq_getElem_cons hj, trucksErr]
 unfold truckErr1 at he ⊢
 split
 ·rfl
 ·rename_i h1
  rw [if_neg h1] at he
  split
  ·rfl
  ·rename_i h2; rw [if_neg h2] at he; exact absurd rfl he
theorem needsErr_at {n : Int} {l : List Need} {j : Nat} (hj : j < l.length) (h : ∀ i (hi : i < l.length), i < j → needBad n l[i] = false ∧ needRange l[i] = false) (he : needErr1 n l[j] ≠ 0) : needsErr n l = needErr1 n l[j] := by
 rw [needsErr_drop (by omega) h, List.drop_eq_getElem_cons hj, needsErr]
 unfold needErr1 at he ⊢
 split
 ·rfl
 ·rename_i h1
  rw [if_neg h1] at he
  split
  ·rfl
  ·rename_i h2; rw [if_neg h2] at he; exact absurd rfl he
set_option maxHeartbeats 1000000 in
theorem r42Check (n hd : Int) (A B C : Option Addr) (l : List Edg) (ts : List Truck) (ns : List Need) (ca cb cc : Nat) (w0 : World) (hz : EdgsAt w0 A l) (ht : RowsAt 4 truckCells w0 B ts) (hn : RowsAt 2 needCells w0 C ns) :
  Calls Try.prog 42 #[.agg #[I n, .slice A l.length ca, .slice B ts.length cb, .slice C ns.length cc, I hd]] w0 fun e w' => e = .returned (I (nightErr n l ts ns hd)) ∧ Below w0.heap.size w0 w' := by
 have H := SH.refl w0
 refine Calls.ofWP Try.func42 rfl Try.results42 Try.ntmps42 rfl <| Y.qr <| Y.bx (cA rfl) H ?_
 clear H; intro g1 w H
 refine Y.v (Ev.asI rfl) <| Y.z <| Y.q <| Y.qr <| Y.v (Y.f rfl rfl) <| Y.v (by (change Ev _ _ _ _ (Op.load 24 (Operand.tmp 10)) _; exact Ev.loadN [I n, .slice A l.length ca] (agg_run rfl) (size_run rfl) rfl ⟨H.ldL 0 rfl 0 rfl, H.ldL 0 rfl 1 rfl, trivial⟩)) <| OPS.call (d := some 12) rfl rfl rfl (EvC.func (fun_run rfl)) (r8Check n A l ca w (hz.sh H)) ?_
 rintro _ w ⟨rfl, hb⟩
 refine ⟨_, rfl, ?_⟩
 replace H := H.toBelow hb; clear hb
 refine Y.v (Ev.asI rfl) <| Y.z <| Y.qr <| Y.v (Y.m rfl) <| Y.v (Ev.neq rfl rfl) <| Y.z ?_
 refine WP.cond rfl (fun hc2 => ?_) (fun hc2 => ?_)
 ·refine Y.qr <| Y.v (Y.m rfl) <| Y.v (Ev.asI rfl) <| Y.z ?_
  refine WP.ret ⟨_, rfl, ?_⟩
  have h : roadErr n l ≠ 0 := by simpa using hc2
  exact ⟨by rw [nightErr, if_pos h]; rfl, H.below⟩
 have h0 : roadErr n l = 0 := by simpa using hc2
 refine Y.k <| Y.q <| Y.qr <| Y.v (Y.f rfl rfl) <| Y.v (Y.l H 0 rfl rfl rfl) <| Y.v (Y.n rfl) <| Y.v (Ev.gtr rfl rfl) <| Y.v (Ev.mvB rfl) <| Y.g rfl rfl (fun hg => Y.f rfl rfl) <| Y.g rfl rfl (fun hg => Ev.load1 (agg_run rfl) (gvE hg rfl) (H.ldL 0 rfl _ rfl)) <| Y.g rfl rfl (fun hg => Ev.len (el_run rfl) (gvE hg rfl)) <| Y.g rfl rfl (fun hg => Ev.gtr (gvE hg rfl) rfl) <| Y.v (Ev.pickOr rfl rfl rfl) <| Y.z ?_
 refine WP.cond rfl (fun hc4 => ?_) (fun hc4 => ?_)
 ·refine Y.qr <| Y.v (Ev.asI rfl) <| Y.z ?_
  refine WP.ret ⟨_, rfl, ?_⟩
  exact ⟨by rw [nightErr, if_neg (by simp [h0]), if_pos (show fullB ts ns = true by simpa [fullB] using hc4)]; rfl, H.below⟩
 have hfu : fullB ts ns = false := by simpa [fullB] using hc4
 have hlt8 : ts.length ≤ 8 ∧ ns.length ≤ 16 := by simp at hc4; omega
 have e0 : nightErr n l ts ns hd = if trucksErr n ts ≠ 0 then trucksErr n ts else if needsErr n ns ≠ 0 then needsErr n ns else if needTwice ns = true then 6 else if inB hd 0 3600 = true then 0 else 1 := by rw [nightErr, if_neg (by simp [h0]), if_neg (by simp [hfu])]
 refine Y.k <| Y.q <| Y.qr <| Y.v (Ev.asI rfl) <| Y.z <| WP.block <| WP.loop [2, 4, 5, 26, 27, 28, 29, 30, 31, 32, 33, 34, 35, 36, 37, 38, 39, 40, 41, 42] (fun k e w' => ∃ j : Nat, j + k = ts.length ∧ e 4 = I j ∧ SH w0 [] w' [⟨g1, 28, [I n, .slice A l.length ca, .slice B ts.length cb, .slice C ns.length cc, I hd]⟩] ∧ ∀ i (hi : i < ts.length), i < j → truckBad n ts[i] = false ∧ truckRange ts[i] = false) (ts.length) (⟨0, by omega, rfl, H, fun i _ hi => absurd hi (by omega)⟩) ?_
 clear H
 rintro k u w ⟨j, hk, h4', H, hall⟩
 refine WP.know (t := 4) h4' <| Y.q <| Y.qr <| Y.v (Y.m rfl) <| Y.v (Y.f rfl rfl) <| Y.v (Y.l H 0 rfl rfl rfl) <| Y.v (Y.n rfl) <| Y.v (Ev.lss rfl rfl) <| Y.z ?_
 refine WP.cond rfl (fun hc7 => ?_) (fun hc7 => ?_)
 ·have hlt : j < ts.length := by simpa using hc7
  obtain ⟨b, o, rfl, hc⟩ := ht j hlt
  refine Y.k <| Y.q <| WP.block <| Y.q <| WP.rquiet mixed (by kernel_rfl) H ?_
  clear H; intro w hbw9 H
  refine Y.v (Y.o H 0 rfl rfl) <| Y.v (Y.f rfl rfl) <| Y.v (Y.l H 0 rfl rfl rfl) <| Y.v (Y.m rfl) <| Y.v (Y.X rfl rfl rfl rfl rfl) ?_
  have hc' := cellsAt_sh H hc
  refine Y.v (by (change Ev _ _ _ _ (Op.load 42 (Operand.tmp 37)) _; exact Ev.loadN (truckCells ts[j]) (agg_run rfl) (size_run rfl) rfl hc')) ?_
  refine OPS.callq rfl rfl rfl (EvC.conv (EvC.func (fun_run rfl)) (l2 rfl rfl)) (v := I (truckErr1 n ts[j])) (fun w2 hb2 => r42Truck n hd A (some ⟨b, o, none⟩) C l.length ts.length ns.length ca cb cc ts[j] w2) ?_
  refine Y.v (Ev.asI rfl) <| OPS.nilq H ?_
  clear H; intro w hbx9 H
  refine Y.qr <| Y.v (Y.m rfl) <| Y.v (Ev.neq rfl rfl) <| Y.z ?_
  refine WP.cond rfl (fun hc10 => ?_) (fun hc10 => ?_)
  ·refine Y.qr <| Y.v (Y.m rfl) <| Y.v (Ev.asI rfl) <| Y.z ?_
   refine WP.ret ⟨_, rfl, ?_⟩
   have hne : truckErr1 n ts[j] ≠ 0 := by simpa using hc10
   have he := trucksErr_at hlt hall hne
   exact ⟨by rw [e0, if_pos (by rw [he]; exact hne), he]; rfl, H.below⟩
  refine Y.k <| Y.r <| Y.v (Y.m rfl) <| Y.v (Y.p rfl rfl) <| Y.v (Ev.asI rfl) <| Y.z ?_
  refine ⟨(by repeat (first | exact Agree.refl _ _ | exact Agree.mix _ _ _ | refine Agree.upd rfl ?_ | refine Agree.mix2 rfl ?_)), k - 1, by omega, j + 1, by omega, rfl, H, fun i hi hij => ?_⟩
  rcases Nat.lt_succ_iff_lt_or_eq.1 hij with h | rfl
  ·exact hall i hi h
  ·exact truckErr1_0 (by simpa using hc10)
 have hj : j = ts.length := by simp at hc7; omega
 subst hj
 have ht0 : trucksErr n ts = 0 := by rw [trucksErr_drop (by omega) hall]; simp [trucksErr]
 clear hall
 refine WP.exit <| XB.hit <| Y.q <| Y.qr <| Y.v (Ev.asI rfl) <| Y.z <| WP.block <| WP.loop [2, 6, 7, 43, 44, 45, 46, 47, 48, 49, 50, 51, 52, 53, 54, 55, 56, 57, 58, 59] (fun k e w' => ∃ j : Nat, j + k = ns.length ∧ e 6 = I j ∧ SH w0 [] w' [⟨g1, 28, [I n, .slice A l.length ca, .slice B ts.length cb, .slice C ns.length cc, I hd]⟩] ∧ ∀ i (hi : i < ns.length), i < j → needBad n ns[i] = false ∧ needRange ns[i] = false) (ns.length) (⟨0, by omega, rfl, H, fun i _ hi => absurd hi (by omega)⟩) ?_
 clear H
 rintro k u w ⟨j, hk, h6', H, hall⟩
 refine WP.know (t := 6) h6' <| Y.q <| Y.qr <| Y.v (Y.m rfl) <| Y.v (Y.f rfl rfl) <| Y.v (Y.l H 0 rfl rfl rfl) <| Y.v (Y.n rfl) <| Y.v (Ev.lss rfl rfl) <| Y.z ?_
 refine WP.cond rfl (fun hc13 => ?_) (fun hc13 => ?_)
 ·have hlt : j < ns.length := by simpa using hc13
  obtain ⟨b, o, rfl, hc⟩ := hn j hlt
  refine Y.k <| Y.q <| WP.block <| Y.q <| WP.rquiet mixed (by kernel_rfl) H ?_
  clear H; intro w hbw15 H
  refine Y.v (Y.o H 0 rfl rfl) <| Y.v (Y.f rfl rfl) <| Y.v (Y.l H 0 rfl rfl rfl) <| Y.v (Y.m rfl) <| Y.v (Y.X rfl rfl rfl rfl rfl) ?_
  have hc' := cellsAt_sh H hc
  refine Y.v (by (change Ev _ _ _ _ (Op.load 48 (Operand.tmp 54)) _; exact Ev.loadN (needCells ns[j]) (agg_run rfl) (size_run rfl) rfl hc')) ?_
  refine OPS.callq rfl rfl rfl (EvC.conv (EvC.func (fun_run rfl)) (l2 rfl rfl)) (v := I (needErr1 n ns[j])) (fun w2 hb2 => r42Need n hd A B (some ⟨b, o, none⟩) l.length ts.length ns.length ca cb cc ns[j] w2) ?_
  refine Y.v (Ev.asI rfl) <| OPS.nilq H ?_
  clear H; intro w hbx15 H
  refine Y.qr <| Y.v (Y.m rfl) <| Y.v (Ev.neq rfl rfl) <| Y.z ?_
  refine WP.cond rfl (fun hc16 => ?_) (fun hc16 => ?_)
  ·refine Y.qr <| Y.v (Y.m rfl) <| Y.v (Ev.asI rfl) <| Y.z ?_
   refine WP.ret ⟨_, rfl, ?_⟩
   have hne : needErr1 n ns[j] ≠ 0 := by simpa using hc16
   have he := needsErr_at hlt hall hne
   exact ⟨by rw [e0, if_neg (by rw [ht0]; simp), if_pos (by rw [he]; exact hne), he]; rfl, H.below⟩
  refine Y.k <| Y.r <| Y.v (Y.m rfl) <| Y.v (Y.p rfl rfl) <| Y.v (Ev.asI rfl) <| Y.z ?_
  refine ⟨(by repeat (first | exact Agree.refl _ _ | exact Agree.mix _ _ _ | refine Agree.upd rfl ?_ | refine Agree.mix2 rfl ?_)), k - 1, by omega, j + 1, by omega, rfl, H, fun i hi hij => ?_⟩
  rcases Nat.lt_succ_iff_lt_or_eq.1 hij with h | rfl
  ·exact hall i hi h
  ·exact needErr1_0 (by simpa using hc16)
 have hj : j = ns.length := by simp at hc13; omega
 subst hj
 have hn0 : needsErr n ns = 0 := by rw [needsErr_drop (by omega) hall]; simp [needsErr]
 clear hall
 refine WP.exit <| XB.hit <| Y.q <| Y.qr <| Y.v (Ev.asI rfl) <| Y.z <| WP.block <| WP.loop [2, 8, 9, 60, 61, 62, 63, 64, 65, 66, 67, 68, 69, 70, 71, 72, 73, 74, 75, 76, 77, 78, 79, 80, 81, 82, 83, 84] (fun k e w' => ∃ j : Nat, j + k = ns.length ∧ e 8 = I j ∧ SH w0 [] w' [⟨g1, 28, [I n, .slice A l.length ca, .slice B ts.length cb, .slice C ns.length cc, I hd]⟩] ∧ ((ns.map (·.node)).take j).Nodup) (ns.length) (⟨0, by omega, rfl, H, by simp⟩) ?_
 clear H
 rintro k u w ⟨j, hk, h8', H, hall⟩
 refine WP.know (t := 8) h8' <| Y.q <| Y.qr <| Y.v (Y.m rfl) <| Y.v (Y.f rfl rfl) <| Y.v (Y.l H 0 rfl rfl rfl) <| Y.v (Y.n rfl) <| Y.v (Ev.lss rfl rfl) <| Y.z ?_
 refine WP.cond rfl (fun hc19 => ?_) (fun hc19 => ?_)
 ·have hlt : j < ns.length := by simpa using hc19
  obtain ⟨b, o, rfl, hc⟩ := hn j hlt
  have hcj : w0.cell? ⟨b, o + j * 2, none⟩ = some (I ns[j].node) := hc.1
  have hmj : j < (ns.map (·.node)).length := by simpa using hlt
  have hnt := nodup_take_succ (l := ns.map (·.node)) hmj
  refine Y.k <| Y.q <| WP.block <| Y.qr <| Y.v (Ev.asI rfl) <| Y.z <| WP.block <| WP.loop [2, 9, 67, 68, 69, 70, 71, 72, 73, 74, 75, 76, 77, 78, 79, 80, 81, 82, 83, 84] (fun k2 e w' => ∃ i : Nat, i + k2 = j ∧ e 9 = I i ∧ SH w0 [] w' [⟨g1, 28, [I n, .slice A l.length ca, .slice B ts.length cb, .slice (some ⟨b, o, none⟩) ns.length cc, I hd]⟩] ∧ (ns.map (·.node))[j] ∉ (ns.map (·.node)).take i) (j) (⟨0, by omega, rfl, H, by simp⟩) ?_
  clear H
  rintro k2 u2 w ⟨i, hk2, h9', H, hno⟩
  refine WP.know (t := 9) h9' <| Y.q <| Y.qr <| Y.v (Y.m rfl) <| Y.v (Y.m rfl) <| Y.v (Ev.lss rfl rfl) <| Y.z ?_
  refine WP.cond rfl (fun hc22 => ?_) (fun hc22 => ?_)
  ·have hij : i < j := by simpa using hc22
   have hil : i < ns.length := by omega
   have hmi : i < (ns.map (·.node)).length := by simpa using hil
   have hci : w0.cell? ⟨b, o + i * 2, none⟩ = some (I ns[i].node) := by
    obtain ⟨b', o', he, hx⟩ := hn i hil
    cases he; exact hx.1
   refine Y.k <| Y.q <| WP.block <| Y.q <| WP.rstill mixed (by kernel_rfl) H ?_
   clear H; intro w hbw24 H
   refine Y.v (Y.f rfl rfl) <| Y.v (Y.l H 0 rfl rfl rfl) <| Y.v (Y.m rfl) <| Y.v (Y.X rfl rfl rfl rfl rfl) <| Y.v (Y.f rfl rfl) <| Y.v (Y.c (H.ld0 (by assumption)) rfl) ?_
   refine Y.v (Y.f rfl rfl) <| Y.v (Y.l H 0 rfl rfl rfl) <| Y.v (Y.m rfl) <| Y.v (Y.X rfl rfl rfl rfl rfl) <| Y.v (Y.f rfl rfl) <| Y.v (Y.c (H.ld0 (by assumption)) rfl) ?_
   refine Y.v (Ev.eql rfl rfl) <| OPS.nil_s ?_
   refine WP.cond rfl (fun hc24 => ?_) (fun hc24 => ?_)
   ·refine Y.qr <| Y.v (Ev.asI rfl) <| Y.z ?_
    refine WP.ret ⟨_, rfl, ?_⟩
    have he : ns[i].node = ns[j].node := by simpa using hc24
    have hm : (ns.map (·.node))[j] ∈ (ns.map (·.node)).take j := by
     rw [show (ns.map (·.node))[j] = (ns.map (·.node))[i] by simp [he]]
     exact List.mem_take_iff_getElem.2 ⟨i, by omega, rfl⟩
    have : needTwice ns = true := by
     unfold needTwice twiceB
     rw [Bool.not_eq_true', decide_eq_false_iff_not]
     exact fun h => (hnt.1 (nodup_of_take h)).2 hm
    exact ⟨by rw [e0, ht0, hn0, this]; rfl, H.below⟩
   refine Y.k <| Y.r <| Y.v (Y.m rfl) <| Y.v (Y.p rfl rfl) <| Y.v (Ev.asI rfl) <| Y.z ?_
   have he : ¬ ns[i].node = ns[j].node := by simpa using hc24
   refine ⟨(by repeat (first | exact Agree.refl _ _ | exact Agree.mix _ _ _ | refine Agree.upd rfl ?_ | refine Agree.mix2 rfl ?_)), k2 - 1, by omega, i + 1, by omega, rfl, H, ?_⟩
   rw [List.take_succ_eq_append_getElem hmi]
   simp only [List.mem_append, List.mem_singleton, not_or]
   exact ⟨hno, fun h => he (by simpa using h.symm)⟩
  refine WP.exit <| XB.hit <| Y.r <| Y.v (Y.m rfl) <| Y.v (Y.p rfl rfl) <| Y.v (Ev.asI rfl) <| Y.z ?_
  have hij : i = j := by simp at hc22; omega
  subst hij
  exact ⟨(by repeat (first | exact Agree.refl _ _ | exact Agree.mix _ _ _ | refine Agree.upd rfl ?_ | refine Agree.mix2 rfl ?_)), k - 1, by omega, i + 1, by omega, rfl, H, hnt.2 ⟨hall, hno⟩⟩
 have hj : j = ns.length := by simp at hc19; omega
 have hnd : needTwice ns = false := by
  rw [hj, show ns.length = (ns.map (·.node)).length by simp, List.take_length] at hall
  simp only [needTwice, twiceB, hall, decide_true]; rfl
 have e1 : nightErr n l ts ns hd = if inB hd 0 3600 = true then 0 else 1 := by rw [e0, ht0, hn0, hnd]; simp
 refine WP.exit <| XB.hit <| Y.q <| Y.qr <| Y.v (Y.f rfl rfl) <| Y.v (Y.l H 0 rfl rfl rfl) <| Y.v (Ev.lss rfl rfl) <| Y.v (Ev.mvB rfl) <| Y.g rfl rfl (fun hg => Y.f rfl rfl) <| Y.g rfl rfl (fun hg => Ev.load1 (agg_run rfl) (gvE hg rfl) (H.ldL 0 rfl _ rfl)) <| Y.g rfl rfl (fun hg => Ev.gtr (gvE hg rfl) rfl) <| Y.v (Ev.pickOr rfl rfl rfl) <| Y.z ?_
 refine WP.cond rfl (fun hc26 => ?_) (fun hc26 => ?_)
 ·refine Y.qr <| Y.v (Ev.asI rfl) <| Y.z ?_
  refine WP.ret ⟨_, rfl, ?_⟩
  exact ⟨by rw [e1, if_neg (by simp at hc26; simp [inB]; omega)]; rfl, H.below⟩
 refine Y.k <| Y.qr <| Y.v (Ev.asI rfl) <| Y.z ?_
 refine WP.ret ⟨_, rfl, ?_⟩
 exact ⟨by rw [e1, if_pos (by simp at hc26; simp [inB]; omega)]; rfl, H.below⟩
end Go.Proofs.Ytgjfjbphngamgaa

/-
 Walks: the reference's Few, Same.
-/
set_option linter.all false
namespace Go.Proofs.Ytgjfjbphngamgaa
open Go Go.W Go.RowKit
def fewB (ll tl nl : Nat) : Bool := decide (ll ≤ 600) && decide (tl ≤ 20) && decide (nl ≤ 30)
theorem r42Few (n hd : Int) (A B C : Option Addr) (ll tl nl ca cb cc : Nat) (w0 : World) :
  Calls Try.prog 9 #[.agg #[I n, .slice A ll ca, .slice B tl cb, .slice C nl cc, I hd]] w0 fun e w' => e = .returned (.bool (fewB ll tl nl)) ∧ Below w0.heap.size w0 w' := by
 have H := SH.refl w0
 refine Calls.ofWP Try.func9 rfl Try.results9 Try.ntmps9 rfl <| Y.qr <| Y.bx (cA rfl) H ?_
 clear H; intro g1 w H
 refine Y.v (Ev.asB rfl) <| Y.z <| Y.qr <| Y.v (Y.f rfl rfl) <| Y.v (Y.f rfl rfl) <| Y.v (Y.l H 0 rfl rfl rfl) <| Y.v (Y.n rfl) <| Y.v (Ev.leq rfl rfl) <| Y.v (Ev.mvB rfl) <| Y.g rfl rfl (fun hg => Y.f rfl rfl) <| Y.g rfl rfl (fun hg => Ev.load1 (agg_run rfl) (gvE hg rfl) (H.ldL 0 rfl _ rfl)) <| Y.g rfl rfl (fun hg => Ev.len (el_run rfl) (gvE hg rfl)) <| Y.g rfl rfl (fun hg => Ev.leq (gvE hg rfl) rfl) <| Y.v (Ev.pickAnd rfl rfl rfl) <| Y.v (Ev.mvB rfl) <| Y.g rfl rfl (fun hg => Y.f rfl rfl) <| Y.g rfl rfl (fun hg => Ev.load1 (agg_run rfl) (gvE hg rfl) (H.ldL 0 rfl _ rfl)) <| Y.g rfl rfl (fun hg => Ev.len (el_run rfl) (gvE hg rfl)) <| Y.g rfl rfl (fun hg => Ev.leq (gvE hg rfl) rfl) <| Y.v (Ev.pickAnd rfl rfl rfl) <| Y.v (Ev.asB rfl) <| Y.z ?_
 refine WP.ret ⟨_, rfl, ?_⟩
 have h1 : decide ((ll : Int) ≤ 600) = decide (ll ≤ 600) := decide_eq_decide.2 (by omega)
 have h2 : decide ((tl : Int) ≤ 20) = decide (tl ≤ 20) := decide_eq_decide.2 (by omega)
 have h3 : decide ((nl : Int) ≤ 30) = decide (nl ≤ 30) := decide_eq_decide.2 (by omega)
 exact ⟨by unfold fewB; rw [← h1, ← h2, ← h3]; rfl, H.below⟩
end Go.Proofs.Ytgjfjbphngamgaa

/-
 Plain: plans, and what is wrong with them.
-/
set_option linter.all false
namespace Go.Proofs.Ytgjfjbphngamgaa
open Go Go.W Go.RowKit
open Classical in
theorem sum_count {α : Type} (x : α) (l : List α) : (l.map fun y => if y = x then 1 else 0).sum = List.count x l := by
 induction l with
 | nil => rfl
 | cons a l ih =>
  rw [List.map_cons, List.sum_cons, ih, List.count_cons]
  by_cases h : a = x <;> simp [h] <;> omega
open Classical in
theorem perm_by {α : Type} {l l' : List α} (h : ∀ f : α → Nat, (l.map f).sum = (l'.map f).sum) : l.Perm l' :=
 List.perm_iff_count.2 fun x => by rw [← sum_count, ← sum_count]; exact h _
section
variable {n : Int} {l : List Edg} {ts : List Truck} {ns : List Need} {hd : Int}
end
end Go.Proofs.Ytgjfjbphngamgaa

/-
 Plain: the chapter's example.
-/
set_option linter.all false
namespace Go.Proofs.Ytgjfjbphngamgaa
open Go Go.W Go.RowKit
def tab3 (a b c : Int) (v : Nat) : Int := if v = 0 then a else if v = 1 then b else c
end Go.Proofs.Ytgjfjbphngamgaa

/-
 Walks: the laws TruckChecks, TruckWalks, TruckFeasible.
-/
set_option linter.all false
namespace Go.Proofs.Ytgjfjbphngamgaa
open Go Go.W Go.RowKit
theorem ret_true {v : Value} {b : Bool} (h : v = .bool b) (hb : b = true) : Ending.returned v = .returned (.bool true) := by rw [h, hb]
/-- a night, as it lies in memory -/
structure NightAt (w : World) (A B C : Option Addr) (l : List Edg) (ts : List Truck) (ns : List Need) (cc : Nat) : Prop where
 l : EdgsAt w A l
 t : RowsAt 4 truckCells w B ts
 n : RowsAt 2 needCells w C ns
 c : ns.length ≤ cc
theorem NightAt.below {w w' : World} {A B C : Option Addr} {l : List Edg} {ts : List Truck} {ns : List Need} {cc : Nat} (h : NightAt w A B C l ts ns cc) (hb : Below w.heap.size w w') : NightAt w' A B C l ts ns cc := ⟨h.l.below hb, h.t.below hb, h.n.below hb, h.c⟩
theorem NightAt.sh {w w' : World} {A B C : Option Addr} {l : List Edg} {ts : List Truck} {ns : List Need} {cc : Nat} {L : List Blk} (h : NightAt w A B C l ts ns cc) (H : SH w [] w' L) : NightAt w' A B C l ts ns cc := h.below H.below
end Go.Proofs.Ytgjfjbphngamgaa

/-
 Walks: flow.node, flow.Check, flow.ends.
-/
set_option linter.all false
namespace Go.Proofs.Ytgjfjbphngamgaa.Flo
open Go Go.W Go.RowKit
structure Arc where
 f : Int
 t : Int
 cap : Int
 cost : Int
def arcCells (a : Arc) : List Value := [I a.f, I a.t, I a.cap, I a.cost]
abbrev ArcsAt := RowsAt 4 arcCells
def isNode (n k : Int) : Bool := decide (0 ≤ k) && decide (k < n)
theorem flowNode (n k : Int) (A : Option Addr) (m cap : Nat) (w0 : World) :
  Calls Try.prog 93 #[.agg #[I n, .slice A m cap], I k] w0 fun e w' => e = .returned (.bool (isNode n k)) ∧ Below w0.heap.size w0 w' := by
 have H := SH.refl w0
 refine Calls.ofWP Try.func93 rfl Try.results93 Try.ntmps93 rfl <| Y.qr <| Y.bx (cA rfl) H ?_
 clear H; intro g2 w H
 refine Y.v (Ev.asB rfl) <| Y.z <| Y.qr <| Y.v (Y.m rfl) <| Y.v (Ev.leq rfl rfl) <| Y.v (Ev.mvB rfl) <| Y.g rfl rfl (fun hg => Y.m rfl) <| Y.g rfl rfl (fun hg => Y.f rfl rfl) <| Y.g rfl rfl (fun hg => Ev.load1 (agg_run rfl) (gvE hg rfl) (H.ldL 0 rfl _ rfl)) <| Y.g rfl rfl (fun hg => Ev.lss (gvE hg rfl) (gvE hg rfl)) <| Y.v (Ev.pickAnd rfl rfl rfl) <| Y.v (Ev.asB rfl) <| Y.z ?_
 refine WP.ret ⟨_, rfl, ?_⟩
 exact ⟨rfl, H.below⟩
def arcBad (n : Int) (a : Arc) : Bool := (!isNode n a.f) || (!isNode n a.t)
def arcRange (a : Arc) : Bool := decide (a.cap < 0) || decide (65536 < a.cap) || decide (a.cost < 0) || decide (65536 < a.cost)
def arcsErr (n : Int) : List Arc → Int
 | [] => 0
 | a :: l => if arcBad n a = true then 7 else if arcRange a = true then 1 else arcsErr n l
def netErr (n : Int) (l : List Arc) : Int := if (decide (n < 1) || decide (64 < n)) = true then 1 else if (512 : Int) < l.length then 8 else arcsErr n l
theorem arcsErr_drop {n : Int} {l : List Arc} : ∀ {j : Nat}, j ≤ l.length → (∀ i (hi : i < l.length), i < j → arcBad n l[i] = false ∧ arcRange l[i] = false) → arcsErr n l = arcsErr n (l.drop j)
 | 0, _, _ => rfl
 | j + 1, hj, h => by
  rw [arcsErr_drop (j := j) (by omega) (fun i hi hij => h i hi (by omega)), List.drop_eq_getElem_cons (show j < l.length by omega), arcsErr]
  have := h j (by omega) (by omega)
  simp [this.1, this.2]
set_option maxHeartbeats 400000 in
theorem flowCheck (n : Int) (A : Option Addr) (l : List Arc) (cap : Nat) (w0 : World) (hz : ArcsAt w0 A l) :
  Calls Try.prog 92 #[.agg #[I n, .slice A l.length cap]] w0 fun e w' => e = .returned (I (netErr n l)) ∧ Below w0.heap.size w0 w' := by
 have H := SH.refl w0
 refine Calls.ofWP Try.func92 rfl Try.results92 Try.ntmps92 rfl <| Y.qr <| Y.bx (cA rfl) H ?_
 clear H; intro g1 w H
 refine Y.v (Ev.asI rfl) <| Y.z <| Y.q <| Y.qr <| Y.v (Y.f rfl rfl) <| Y.v (Y.l H 0 rfl rfl rfl) <| Y.v (Ev.lss rfl rfl) <| Y.v (Ev.mvB rfl) <| Y.g rfl rfl (fun hg => Y.f rfl rfl) <| Y.g rfl rfl (fun hg => Ev.load1 (agg_run rfl) (gvE hg rfl) (H.ldL 0 rfl _ rfl)) <| Y.g rfl rfl (fun hg => Ev.gtr (gvE hg rfl) rfl) <| Y.v (Ev.pickOr rfl rfl rfl) <| Y.z ?_
 refine WP.cond rfl (fun hc1 => ?_) (fun hc1 => ?_)
 ·refine Y.qr <| Y.v (Ev.asI rfl) <| Y.z ?_
  refine WP.ret ⟨_, rfl, ?_⟩
  exact ⟨by rw [netErr, if_pos hc1]; rfl, H.below⟩
 refine Y.k <| Y.q <| Y.qr <| Y.v (Y.f rfl rfl) <| Y.v (Y.l H 0 rfl rfl rfl) <| Y.v (Y.n rfl) <| Y.v (Ev.gtr rfl rfl) <| Y.z ?_
 refine WP.cond rfl (fun hc3 => ?_) (fun hc3 => ?_)
 ·refine Y.qr <| Y.v (Ev.asI rfl) <| Y.z ?_
  refine WP.ret ⟨_, rfl, ?_⟩
  exact ⟨by rw [netErr, if_neg (by simp [hc1]), if_pos (by simpa using hc3)]; rfl, H.below⟩
 have hl : l.length ≤ 512 := by simp at hc3; omega
 have e0 : netErr n l = arcsErr n l := by rw [netErr, if_neg (by simp [hc1]), if_neg (by simpa using hc3)]
 refine Y.k <| Y.q <| Y.qr <| Y.v (Y.f rfl rfl) <| Y.v (Y.l H 0 rfl rfl rfl) <| Y.v (Y.n rfl) <| Y.v (Y.m rfl) <| Y.z <| WP.block <| WP.loop [2, 4, 20, 21, 22, 23, 24, 25, 26, 27, 28, 29, 30, 31, 32, 33, 34, 35, 36, 37, 38, 39, 40, 41, 42, 43, 44, 45, 46, 47, 48, 49, 50, 51, 52, 53, 54] (fun k e w' => ∃ j : Nat, j + k = l.length ∧ e 20 = .int .i64 j ∧ SH w0 [] w' [⟨g1, 76, [I n, .slice A l.length cap]⟩] ∧ ∀ i (hi : i < l.length), i < j → arcBad n l[i] = false ∧ arcRange l[i] = false) (l.length) (⟨0, by omega, rfl, H, fun i _ hi => absurd hi (by omega)⟩) ?_
 clear H
 rintro k u w ⟨j, hk, h20, H, hall⟩
 refine WP.know (t := 20) h20 <| Y.qr <| Y.v (Ev.lss rfl rfl) <| Y.z <| Y.q ?_
 refine WP.cond rfl (fun hc6 => ?_) (fun hc6 => ?_)
 ·have hlt : j < l.length := by simpa using hc6
  obtain ⟨b, o, rfl, hc⟩ := hz j hlt
  have hc' := cellsAt_sh H hc
  refine Y.k <| Y.q <| WP.block <| Y.qr <| Y.v (Y.X rfl rfl rfl rfl rfl) <| Y.v (by (change Ev _ _ _ _ (Op.load 96 (Operand.tmp 22)) _; exact Ev.loadN (arcCells l[j]) (agg_run rfl) (size_run rfl) rfl hc')) <| Y.al H rfl rfl ?_
  clear H; intro g4 w H
  refine OPS.store 0 _ rfl rfl rfl (size_run rfl) rfl (cA rfl) rfl rfl H rfl (by simp) ?_
  clear H; intro w H; try simp only [List.set_cons_zero, List.set_cons_succ, putL, Nat.zero_add] at H
  refine Y.z <| Y.q <| Y.qr <| Y.v (Y.o H 1 rfl rfl) <| Y.v (Y.f rfl rfl) <| Y.v (Y.l H 0 rfl rfl rfl) <| OPS.call (d := some 27) rfl rfl rfl (EvC.func (fun_run rfl)) (flowNode n l[j].f _ _ _ _) ?_
  rintro _ w ⟨rfl, hb⟩
  refine ⟨_, rfl, ?_⟩
  replace H := H.toBelow hb; clear hb
  refine Y.v (Ev.not rfl) <| Y.v (Ev.mvB rfl) <| Y.g rfl rfl (fun hg => Y.o H 1 rfl rfl) <| Y.g rfl rfl (fun hg => Y.f rfl rfl) <| Y.g rfl rfl (fun hg => Ev.load1 (agg_run rfl) (gvE hg rfl) (H.ldL 0 rfl _ rfl)) <| OPS.gcall0 (f := 93) (flowNode n l[j].t _ _ _ _) (fun _ _ h => h) rfl rfl rfl rfl rfl (fun hg => EvC.conv (EvC.func (fun_run rfl)) (l2 (gvE hg rfl) (gvE hg rfl))) ?_
  intro w hbc; replace H := H.toBelow hbc
  refine Y.g rfl rfl (fun hg => Ev.not (gvE hg rfl)) <| Y.v (Ev.pickOr rfl rfl rfl) <| Y.z ?_
  refine WP.cond rfl (fun hc8 => ?_) (fun hc8 => ?_)
  ·refine Y.qr <| Y.v (Ev.asI rfl) <| Y.z ?_
   refine WP.ret ⟨_, rfl, ?_⟩
   exact ⟨by rw [e0, arcsErr_drop (by omega) hall, List.drop_eq_getElem_cons hlt, arcsErr, if_pos (show arcBad n l[j] = true from hc8)]; rfl, H.below⟩
  refine Y.k <| Y.qr <| Y.v (Y.f rfl rfl) <| Y.v (Y.l H 0 rfl rfl rfl) <| Y.v (Ev.lss rfl rfl) <| Y.v (Ev.mvB rfl) <| Y.g rfl rfl (fun hg => Y.f rfl rfl) <| Y.g rfl rfl (fun hg => Ev.load1 (agg_run rfl) (gvE hg rfl) (H.ldL 0 rfl _ rfl)) <| Y.g rfl rfl (fun hg => Ev.gtr (gvE hg rfl) rfl) <| Y.v (Ev.pickOr rfl rfl rfl) <| Y.v (Ev.mvB rfl) <| Y.g rfl rfl (fun hg => Y.f rfl rfl) <| Y.g rfl rfl (fun hg => Ev.load1 (agg_run rfl) (gvE hg rfl) (H.ldL 0 rfl _ rfl)) <| Y.g rfl rfl (fun hg => Ev.lss (gvE hg rfl) rfl) <| Y.v (Ev.pickOr rfl rfl rfl) <| Y.v (Ev.mvB rfl) <| Y.g rfl rfl (fun hg => Y.f rfl rfl) <| Y.g rfl rfl (fun hg => Ev.load1 (agg_run rfl) (gvE hg rfl) (H.ldL 0 rfl _ rfl)) <| Y.g rfl rfl (fun hg => Ev.gtr (gvE hg rfl) rfl) <| Y.v (Ev.pickOr rfl rfl rfl) <| Y.z ?_
  refine WP.cond rfl (fun hc10 => ?_) (fun hc10 => ?_)
  ·refine Y.qr <| Y.v (Ev.asI rfl) <| Y.z ?_
   refine WP.ret ⟨_, rfl, ?_⟩
   exact ⟨by rw [e0, arcsErr_drop (by omega) hall, List.drop_eq_getElem_cons hlt, arcsErr, if_neg (by rw [show arcBad n l[j] = false from hc8]; simp), if_pos (show arcRange l[j] = true from hc10)]; rfl, H.below⟩
  refine Y.k <| Y.r <| Y.v (Y.p rfl rfl) <| Y.v (Y.m rfl) <| Y.z ?_
  refine ⟨(by repeat (first | exact Agree.refl _ _ | exact Agree.mix _ _ _ | refine Agree.upd rfl ?_ | refine Agree.mix2 rfl ?_)), k - 1, by omega, j + 1, by omega, rfl, H.drop (by simp), fun i hi hij => ?_⟩
  rcases Nat.lt_succ_iff_lt_or_eq.1 hij with h | rfl
  ·exact hall i hi h
  ·exact ⟨hc8, hc10⟩
 refine WP.exit <| XB.hit <| Y.qr <| Y.v (Ev.asI rfl) <| Y.z ?_
 refine WP.ret ⟨_, rfl, ?_⟩
 have : j = l.length := by simp at hc6; omega
 subst this
 exact ⟨by rw [e0, arcsErr_drop (by omega) hall]; simp [arcsErr]; rfl, H.below⟩
def endsErr (n : Int) (l : List Arc) (f t : Int) : Int :=
 if netErr n l ≠ 0 then netErr n l else if ((!isNode n f) || (!isNode n t)) = true then 7 else if f = t then 1 else 0
theorem flowEnds (n f t : Int) (A : Option Addr) (l : List Arc) (cap : Nat) (w0 : World) (hz : ArcsAt w0 A l) :
  Calls Try.prog 75 #[.agg #[I n, .slice A l.length cap], I f, I t] w0 fun e w' => e = .returned (I (endsErr n l f t)) ∧ Below w0.heap.size w0 w' := by
 have H := SH.refl w0
 refine Calls.ofWP Try.func75 rfl Try.results75 Try.ntmps75 rfl <| Y.qr <| Y.bx (cA rfl) H ?_
 clear H; intro g3 w H
 refine Y.v (Ev.asI rfl) <| Y.z <| Y.q <| Y.qr <| Y.v (Y.o H 0 rfl rfl) <| OPS.call (d := some 9) rfl rfl rfl (EvC.func (fun_run rfl)) (flowCheck n A l cap w (hz.sh H)) ?_
 rintro _ w ⟨rfl, hb⟩
 refine ⟨_, rfl, ?_⟩
 replace H := H.toBelow hb; clear hb
 refine Y.v (Ev.asI rfl) <| Y.z <| WP.block <| Y.qr <| Y.v (Y.m rfl) <| Y.v (Ev.neq rfl rfl) <| Y.v (Ev.asB rfl) <| Y.z ?_
 refine WP.cond rfl (fun hc2 => ?_) (fun hc2 => ?_)
 ·refine Y.qr <| Y.v (Y.m rfl) <| Y.v (Ev.asI rfl) <| Y.z ?_
  refine WP.ret ⟨_, rfl, ?_⟩
  have h : netErr n l ≠ 0 := by simpa using hc2
  exact ⟨by rw [endsErr, if_pos h]; rfl, H.below⟩
 have h0 : netErr n l = 0 := by simpa using hc2
 refine Y.qr <| Y.v (Y.o H 0 rfl rfl) <| Y.v (Y.m rfl) <| OPS.call (d := some 17) rfl rfl rfl (EvC.func (fun_run rfl)) (flowNode n f _ _ _ _) ?_
 rintro _ w ⟨rfl, hb⟩
 refine ⟨_, rfl, ?_⟩
 replace H := H.toBelow hb; clear hb
 refine Y.v (Ev.not rfl) <| Y.v (Ev.mvB rfl) <| Y.g rfl rfl (fun hg => Y.o H 0 rfl rfl) <| Y.g rfl rfl (fun hg => Y.m rfl) <| OPS.gcall0 (f := 93) (flowNode n t _ _ _ _) (fun _ _ h => h) rfl rfl rfl rfl rfl (fun hg => EvC.conv (EvC.func (fun_run rfl)) (l2 (gvE hg rfl) (gvE hg rfl))) ?_
 intro w hbc; replace H := H.toBelow hbc
 refine Y.g rfl rfl (fun hg => Ev.not (gvE hg rfl)) <| Y.v (Ev.pickOr rfl rfl rfl) <| Y.v (Ev.asB rfl) <| Y.z ?_
 refine WP.cond rfl (fun hc4 => ?_) (fun hc4 => ?_)
 ·refine Y.qr <| Y.v (Ev.asI rfl) <| Y.z ?_
  refine WP.ret ⟨_, rfl, ?_⟩
  exact ⟨by rw [endsErr, if_neg (by simp [h0]), if_pos hc4]; rfl, H.below⟩
 refine Y.qr <| Y.v (Y.m rfl) <| Y.v (Y.m rfl) <| Y.v (Ev.eql rfl rfl) <| Y.v (Ev.asB rfl) <| Y.z ?_
 refine WP.cond rfl (fun hc6 => ?_) (fun hc6 => ?_)
 ·refine Y.qr <| Y.v (Ev.asI rfl) <| Y.z ?_
  refine WP.ret ⟨_, rfl, ?_⟩
  exact ⟨by rw [endsErr, if_neg (by simp [h0]), if_neg (by simp [hc4]), if_pos (by simpa using hc6)]; rfl, H.below⟩
 refine Y.k <| Y.qr <| Y.v (Ev.asI rfl) <| Y.z ?_
 refine WP.ret ⟨_, rfl, ?_⟩
 exact ⟨by rw [endsErr, if_neg (by simp [h0]), if_neg (by simp [hc4]), if_neg (by simpa using hc6)]; rfl, H.below⟩
end Go.Proofs.Ytgjfjbphngamgaa.Flo

/-
 Walks: residue.each (whatever function it calls), the function that reach hands to it, reach.
-/
set_option linter.all false
namespace Go.Proofs.Ytgjfjbphngamgaa.Flo
open Go Go.W Go.RowKit
instance : Inhabited Arc := ⟨⟨0, 0, 0, 0⟩⟩
abbrev VisF (σ : Type) := σ → Int → Int → Nat → Int → Int → Bool → σ
def eachF {σ : Type} (vis : VisF σ) (i : Nat) (a : Arc) (x : Int) (s : σ) : σ := if x < a.cap then vis s a.f a.t i (a.cap - x) a.cost true else s
def eachB {σ : Type} (vis : VisF σ) (i : Nat) (a : Arc) (x : Int) (s : σ) : σ := if 0 < x then vis s a.t a.f i x (-a.cost) false else s
/-- what 'each' does to a state: the first k arcs -/
def eachM {σ : Type} (vis : VisF σ) (l : List Arc) (on : List Int) : Nat → σ → σ
 | 0, s => s
 | k + 1, s => eachB vis k (l.getD k default) (on.getD k 0) (eachF vis k (l.getD k default) (on.getD k 0) (eachM vis l on k s))
theorem eachM_succ {σ : Type} (vis : VisF σ) (l : List Arc) (on : List Int) (k : Nat) (s : σ) (h : k < l.length) (h2 : k < on.length) :
  eachM vis l on (k + 1) s = eachB vis k l[k] on[k] (eachF vis k l[k] on[k] (eachM vis l on k s)) := by
 rw [eachM]; simp [h, h2]
set_option maxHeartbeats 1000000 in
theorem flowEach {σ : Type} (vis : VisF σ) (Lv : σ → List Blk) (gs : List Nat) (hgs : ∀ s, (Lv s).map (·.g) = gs) (Inv : σ → Prop) (fv : Nat) (caps : List Value)
  (n : Int) (A B : Option Addr) (l : List Arc) (on : List Int) (cap cap2 : Nat) (s0 : σ) (w0 : World)
  (hfun : funT fv = true)
  (hz : ArcsAt w0 A l) (hA : l ≠ [] → Off A gs) (ho : IntsAt w0 B on) (hB : on ≠ [] → Off B gs) (hlen : on.length = l.length) (hl : l.length ≤ 4096)
  (hcap : ∀ i (h : i < l.length), -1000000 ≤ l[i].cap ∧ l[i].cap ≤ 1000000 ∧ -1000000 ≤ l[i].cost ∧ l[i].cost ≤ 1000000) (hon : ∀ i (h : i < on.length), -1000000000 ≤ on[i] ∧ on[i] ≤ 1000000000)
  (hvF : ∀ i (h : i < l.length) (h2 : i < on.length) s w, Inv s → on[i] < l[i].cap → SH w gs w (Lv s) → Calls Try.prog fv ([I l[i].f, I l[i].t, I i, I (l[i].cap - on[i]), I l[i].cost, .bool true] ++ caps).toArray w fun e w' => e = .returned (.tuple #[]) ∧ SH w gs w' (Lv (vis s l[i].f l[i].t i (l[i].cap - on[i]) l[i].cost true)))
  (hiF : ∀ i (h : i < l.length) (h2 : i < on.length) s, Inv s → on[i] < l[i].cap → Inv (vis s l[i].f l[i].t i (l[i].cap - on[i]) l[i].cost true))
  (hvB : ∀ i (h : i < l.length) (h2 : i < on.length) s w, Inv s → 0 < on[i] → SH w gs w (Lv s) → Calls Try.prog fv ([I l[i].t, I l[i].f, I i, I on[i], I (-l[i].cost), .bool false] ++ caps).toArray w fun e w' => e = .returned (.tuple #[]) ∧ SH w gs w' (Lv (vis s l[i].t l[i].f i on[i] (-l[i].cost) false)))
  (hiB : ∀ i (h : i < l.length) (h2 : i < on.length) s, Inv s → 0 < on[i] → Inv (vis s l[i].t l[i].f i on[i] (-l[i].cost) false))
  (hs0 : Inv s0) (H0 : SH w0 gs w0 (Lv s0)) :
  Calls Try.prog 81 #[.agg #[I n, .slice A l.length cap, .slice B on.length cap2], .func (.func fv) #[] caps.toArray] w0 fun e w' => e = .returned (.tuple #[]) ∧ SH w0 gs w' (Lv (eachM vis l on l.length s0)) := by
 have H := H0
 refine Calls.ofWP Try.func81 rfl Try.results81 Try.ntmps81 rfl <| Y.qr <| Y.bx (cA rfl) H ?_
 clear H; intro g2 w H
 refine Y.z <| Y.qr <| Y.v (Y.f rfl rfl) <| Y.v (Y.f rfl rfl) <| Y.v (Y.l H 0 rfl rfl rfl) <| Y.v (Y.n rfl) <| Y.v (Y.m rfl) <| Y.z <| WP.block <| WP.loop [4, 5, 10, 11, 12, 13, 14, 15, 16, 17, 18, 19, 20, 21, 22, 23, 24, 25, 26, 27, 28, 29, 30, 31, 32, 33, 34, 35, 36, 37, 38, 39, 40, 41, 42, 43, 44, 45, 46, 47, 48, 49, 50, 51, 52, 53, 54, 55, 56, 57, 58, 59, 60, 61] (fun k e w' => ∃ j : Nat, j + k = l.length ∧ e 10 = .int .i64 j ∧ SH w0 gs w' ([⟨g2, 111, [I n, .slice A l.length cap, .slice B on.length cap2]⟩] ++ Lv (eachM vis l on j s0)) ∧ Inv (eachM vis l on j s0)) (l.length) (⟨0, by omega, rfl, H, hs0⟩) ?_
 clear H
 rintro k u w ⟨j, hk, h10, H, hi⟩
 refine WP.know (t := 10) h10 ?_
 generalize hs : eachM vis l on j s0 = s at H hi
 refine Y.qr <| Y.v (Ev.lss rfl rfl) <| Y.z <| Y.q ?_
 refine WP.cond rfl (fun hc2 => ?_) (fun hc2 => ?_)
 ·have hlt : j < l.length := by simpa using hc2
  have hlt2 : j < on.length := by omega
  obtain ⟨b, o, rfl, hc⟩ := hz j hlt
  obtain ⟨b2, o2, rfl, hx⟩ := ho j hlt2
  have hbS : b ∉ gs := hA (List.ne_nil_of_length_pos (by omega)) b o rfl
  have hbS2 : b2 ∉ gs := hB (List.ne_nil_of_length_pos (by omega)) b2 o2 rfl
  have hc' := cellsAt_shS H hbS hc
  have hcb := hcap j hlt
  have hob := hon j hlt2
  refine Y.k <| Y.q <| WP.block <| Y.qr <| Y.v (Y.m rfl) <| Y.v (Y.X rfl rfl rfl rfl rfl) <| Y.v (by (change Ev _ _ _ _ (Op.load 96 (Operand.tmp 13)) _; exact Ev.loadN (arcCells l[j]) (agg_run rfl) (size_run rfl) rfl hc')) <| Y.al H rfl rfl ?_
  clear H; intro g5 w H
  refine OPS.val rfl rfl rfl (Ev.asI rfl) ?_
  refine OPS.store 0 _ rfl rfl rfl (size_run rfl) rfl (cA rfl) rfl rfl H rfl (by simp) ?_
  clear H; intro w H; try simp only [List.set_cons_zero, List.set_cons_succ, putL, Nat.zero_add] at H
  refine Y.z <| Y.q <| Y.q <| WP.rstill mixed (by kernel_rfl) H ?_
  clear H; intro w hbw4 H
  refine Y.v (Y.f rfl rfl) <| Y.v (Y.l H 1 rfl rfl rfl) <| Y.v (Y.m rfl) <| Y.v (Y.x rfl rfl rfl rfl) <| Y.v (Y.c (H.ldS (by assumption) (by assumption)) rfl) ?_
  refine Y.v (Y.f rfl rfl) <| Y.v (Y.l H 0 rfl rfl rfl) <| Y.v (Ev.lss rfl rfl) <| OPS.nil_s ?_
  refine WP.cond rfl (fun hc4 => ?_) (fun hc4 => ?_)
  ·refine WP.rtail 16 mixed (by kernel_rfl) H ?_
   clear H; intro w hbw5 H
   refine Y.v (Ev.mvF rfl) <| Y.v (Y.f rfl rfl) <| Y.v (Y.l H 0 rfl rfl rfl) <| Y.v (Y.f rfl rfl) <| Y.v (Y.l H 0 rfl rfl rfl) <| Y.v (Y.m rfl) <| Y.v (Y.f rfl rfl) <| Y.v (Y.l H 0 rfl rfl rfl) <| Y.v (Y.f rfl rfl) <| Y.v (Y.l H 1 rfl rfl rfl) <| Y.v (Y.m rfl) <| Y.v (Y.x rfl rfl rfl rfl) <| Y.v (Y.c (H.ldS (by assumption) (by assumption)) rfl) ?_
   refine Y.v (Y.s rfl rfl) <| Y.v (Y.f rfl rfl) <| Y.v (Y.l H 0 rfl rfl rfl) <| OPS.nil_s <| OPS.call (d := some 39) rfl rfl rfl (EvC.clos rfl (fun_run (by assumption))) (hvF j hlt hlt2 s _ hi (by simpa using hc4) (by rw [← hgs s]; exact H.restart ((List.sublist_cons_self _ _).trans (List.sublist_cons_self _ _)))) ?_
   rintro _ w ⟨rfl, Hc⟩
   refine ⟨_, rfl, ?_⟩
   replace H := SH.call (L1 := [⟨g5, 96, arcCells l[j]⟩, ⟨g2, 111, [I n, .slice (some ⟨b, o, none⟩) l.length cap, .slice (some ⟨b2, o2, none⟩) on.length cap2]⟩]) H (by rw [hgs s]; exact Hc)
   clear Hc
   replace hi := hiF j hlt hlt2 s hi (by simpa using hc4)
   have hs1 : eachF vis j l[j] on[j] s = vis s l[j].f l[j].t j (l[j].cap - on[j]) l[j].cost true := if_pos (by simpa using hc4)
   generalize vis s l[j].f l[j].t j (l[j].cap - on[j]) l[j].cost true = s1 at H hi hs1
   refine Y.z <| Y.qr <| Y.v (Y.f rfl rfl) <| Y.v (Y.l H 1 rfl rfl rfl) <| Y.v (Y.m rfl) <| Y.v (Y.x rfl rfl rfl rfl) <| Y.v (Y.c (H.ldS (by assumption) (by assumption)) rfl) ?_
   refine Y.v (Ev.gtr rfl rfl) <| Y.z ?_
   refine WP.cond rfl (fun hc6 => ?_) (fun hc6 => ?_)
   ·refine WP.rtail 14 mixed (by kernel_rfl) H ?_
    clear H; intro w hbw7 H
    refine Y.v (Ev.mvF rfl) <| Y.v (Y.f rfl rfl) <| Y.v (Y.l H 0 rfl rfl rfl) <| Y.v (Y.f rfl rfl) <| Y.v (Y.l H 0 rfl rfl rfl) <| Y.v (Y.m rfl) <| Y.v (Y.f rfl rfl) <| Y.v (Y.l H 1 rfl rfl rfl) <| Y.v (Y.m rfl) <| Y.v (Y.x rfl rfl rfl rfl) <| Y.v (Y.c (H.ldS (by assumption) (by assumption)) rfl) ?_
    refine Y.v (Y.f rfl rfl) <| Y.v (Y.l H 0 rfl rfl rfl) <| Y.v (Ev.neg rfl (by unfold fits; omega)) <| OPS.nil_s <| OPS.call (d := some 60) rfl rfl rfl (EvC.clos rfl (fun_run (by assumption))) (hvB j hlt hlt2 s1 _ hi (by simpa using hc6) (by rw [← hgs s1]; exact H.restart ((List.sublist_cons_self _ _).trans (List.sublist_cons_self _ _)))) ?_
    rintro _ w ⟨rfl, Hc⟩
    refine ⟨_, rfl, ?_⟩
    replace H := SH.call (L1 := [⟨g5, 96, arcCells l[j]⟩, ⟨g2, 111, [I n, .slice (some ⟨b, o, none⟩) l.length cap, .slice (some ⟨b2, o2, none⟩) on.length cap2]⟩]) H (by rw [hgs s1]; exact Hc)
    clear Hc
    replace hi := hiB j hlt hlt2 s1 hi (by simpa using hc6)
    have hs2 : eachB vis j l[j] on[j] s1 = vis s1 l[j].t l[j].f j on[j] (-l[j].cost) false := if_pos (by simpa using hc6)
    refine Y.z <| Y.r <| Y.v (Y.p rfl rfl) <| Y.v (Y.m rfl) <| Y.z ?_
    have hfin : eachM vis l on (j + 1) s0 = eachB vis j l[j] on[j] s1 := by
     rw [eachM_succ vis l on j s0 hlt hlt2, hs]
     rw [hs1]
    refine ⟨(by repeat (first | exact Agree.refl _ _ | exact Agree.mix _ _ _ | refine Agree.upd rfl ?_ | refine Agree.mix2 rfl ?_)), k - 1, by omega, j + 1, by omega, rfl, ?_, ?_⟩
    ·rw [hfin, hs2]; exact H.drop (List.sublist_cons_self _ _)
    ·rw [hfin, hs2]; exact hi
   have hs2 : eachB vis j l[j] on[j] s1 = s1 := if_neg (by simpa using hc6)
   refine Y.k <| Y.r <| Y.v (Y.p rfl rfl) <| Y.v (Y.m rfl) <| Y.z ?_
   have hfin : eachM vis l on (j + 1) s0 = eachB vis j l[j] on[j] s1 := by
    rw [eachM_succ vis l on j s0 hlt hlt2, hs]
    rw [hs1]
   refine ⟨(by repeat (first | exact Agree.refl _ _ | exact Agree.mix _ _ _ | refine Agree.upd rfl ?_ | refine Agree.mix2 rfl ?_)), k - 1, by omega, j + 1, by omega, rfl, ?_, ?_⟩
   ·rw [hfin, hs2]; exact H.drop (List.sublist_cons_self _ _)
   ·rw [hfin, hs2]; exact hi
  have hs1 : eachF vis j l[j] on[j] s = s := if_neg (by simpa using hc4)
  generalize hss : s = s1 at H hi
  rw [hss] at hs1
  refine Y.k <| Y.qr <| Y.v (Y.f rfl rfl) <| Y.v (Y.l H 1 rfl rfl rfl) <| Y.v (Y.m rfl) <| Y.v (Y.x rfl rfl rfl rfl) <| Y.v (Y.c (H.ldS (by assumption) (by assumption)) rfl) ?_
  refine Y.v (Ev.gtr rfl rfl) <| Y.z ?_
  refine WP.cond rfl (fun hc6 => ?_) (fun hc6 => ?_)
  ·refine WP.rtail 14 mixed (by kernel_rfl) H ?_
   clear H; intro w hbw7 H
   refine Y.v (Ev.mvF rfl) <| Y.v (Y.f rfl rfl) <| Y.v (Y.l H 0 rfl rfl rfl) <| Y.v (Y.f rfl rfl) <| Y.v (Y.l H 0 rfl rfl rfl) <| Y.v (Y.m rfl) <| Y.v (Y.f rfl rfl) <| Y.v (Y.l H 1 rfl rfl rfl) <| Y.v (Y.m rfl) <| Y.v (Y.x rfl rfl rfl rfl) <| Y.v (Y.c (H.ldS (by assumption) (by assumption)) rfl) ?_
   refine Y.v (Y.f rfl rfl) <| Y.v (Y.l H 0 rfl rfl rfl) <| Y.v (Ev.neg rfl (by unfold fits; omega)) <| OPS.nil_s <| OPS.call (d := some 60) rfl rfl rfl (EvC.clos rfl (fun_run (by assumption))) (hvB j hlt hlt2 s1 _ hi (by simpa using hc6) (by rw [← hgs s1]; exact H.restart ((List.sublist_cons_self _ _).trans (List.sublist_cons_self _ _)))) ?_
   rintro _ w ⟨rfl, Hc⟩
   refine ⟨_, rfl, ?_⟩
   replace H := SH.call (L1 := [⟨g5, 96, arcCells l[j]⟩, ⟨g2, 111, [I n, .slice (some ⟨b, o, none⟩) l.length cap, .slice (some ⟨b2, o2, none⟩) on.length cap2]⟩]) H (by rw [hgs s1]; exact Hc)
   clear Hc
   replace hi := hiB j hlt hlt2 s1 hi (by simpa using hc6)
   have hs2 : eachB vis j l[j] on[j] s1 = vis s1 l[j].t l[j].f j on[j] (-l[j].cost) false := if_pos (by simpa using hc6)
   refine Y.z <| Y.r <| Y.v (Y.p rfl rfl) <| Y.v (Y.m rfl) <| Y.z ?_
   have hfin : eachM vis l on (j + 1) s0 = eachB vis j l[j] on[j] s1 := by
    rw [eachM_succ vis l on j s0 hlt hlt2, hs]
    rw [hss, hs1]
   refine ⟨(by repeat (first | exact Agree.refl _ _ | exact Agree.mix _ _ _ | refine Agree.upd rfl ?_ | refine Agree.mix2 rfl ?_)), k - 1, by omega, j + 1, by omega, rfl, ?_, ?_⟩
   ·rw [hfin, hs2]; exact H.drop (List.sublist_cons_self _ _)
   ·rw [hfin, hs2]; exact hi
  have hs2 : eachB vis j l[j] on[j] s1 = s1 := if_neg (by simpa using hc6)
  refine Y.k <| Y.r <| Y.v (Y.p rfl rfl) <| Y.v (Y.m rfl) <| Y.z ?_
  have hfin : eachM vis l on (j + 1) s0 = eachB vis j l[j] on[j] s1 := by
   rw [eachM_succ vis l on j s0 hlt hlt2, hs]
   rw [hss, hs1]
  refine ⟨(by repeat (first | exact Agree.refl _ _ | exact Agree.mix _ _ _ | refine Agree.upd rfl ?_ | refine Agree.mix2 rfl ?_)), k - 1, by omega, j + 1, by omega, rfl, ?_, ?_⟩
  ·rw [hfin, hs2]; exact H.drop (List.sublist_cons_self _ _)
  ·rw [hfin, hs2]; exact hi
 refine WP.exit <| XB.hit <| ⟨_, rfl, ?_⟩
 have : j = l.length := by simp at hc2; omega
 subst this
 rw [hs]
 exact ⟨rfl, H.drop (List.sublist_cons_self _ _)⟩
end Go.Proofs.Ytgjfjbphngamgaa.Flo

/-
 Walks: the function that reach hands to each; reach.
-/
set_option linter.all false
namespace Go.Proofs.Ytgjfjbphngamgaa.Flo
open Go Go.W Go.RowKit
structure Step where
 from_ : Int
 arc : Int
 room : Int
 fwd : Bool
 known : Bool
 depth : Int
instance : Inhabited Step := ⟨⟨0, 0, 0, false, false, 0⟩⟩
def stepCells (s : Step) : List Value := [I s.from_, I s.arc, I s.room, Bo s.fwd, Bo s.known, I s.depth]
theorem stepCells_len (s : Step) : (stepCells s).length = 6 := rfl
abbrev RSt := List Step × Bool
def visC (d : Int) (s : RSt) (a b : Nat) : Bool := (((s.1.getD a default).known && decide ((s.1.getD a default).depth = d)) && !(s.1.getD b default).known) && decide (b < s.1.length)
def visR (d : Int) : VisF RSt := fun s a b arc room _ fwd =>
 if visC d s a.toNat b.toNat = true then (s.1.set b.toNat ⟨a, arc, room, fwd, true, d + 1⟩, true) else s
def reachLv (gs gd gg ga n : Nat) (d : Int) (s : RSt) : List Blk := [⟨gs, 112, [.slice (some ⟨ga, 0, none⟩) n n]⟩, ⟨gd, 3, [I d]⟩, ⟨gg, 4, [Bo s.2]⟩, ⟨ga, 116, s.1.flatMap stepCells⟩]
set_option maxHeartbeats 1000000 in
theorem reachVisit (gs gd gg ga n ai bi : Nat) (d room cost : Int) (arc : Nat) (fwd : Bool) (s : RSt) (w0 : World) (hn : s.1.length = n) (ha : ai < n) (hb : bi < n) (hd : 0 ≤ d) (hd2 : d ≤ 1000000)
  (H0 : SH w0 [gs, gd, gg, ga] w0 (reachLv gs gd gg ga n d s)) :
  Calls Try.prog 103 #[I ai, I bi, I arc, I room, I cost, .bool fwd, .pointer (some ⟨gs, 0, none⟩), .pointer (some ⟨gd, 0, none⟩), .pointer (some ⟨gg, 0, none⟩)] w0
   fun e w' => e = .returned (.tuple #[]) ∧ SH w0 [gs, gd, gg, ga] w' (reachLv gs gd gg ga n d (visR d s ai bi arc room cost fwd)) := by
 have H := H0
 unfold reachLv at H
 have hga : s.1.getD ai default = s.1[ai] := by simp [hn, ha]
 have hgb : s.1.getD bi default = s.1[bi] := by simp [hn, hb]
 refine Calls.ofWP Try.func103 rfl Try.results103 Try.ntmps103 rfl <| Y.q <| WP.rstill mixed (by kernel_rfl) H ?_
 clear H; intro w hbw0 H
 have hrow := rowsOwn' stepCells_len H 3 rfl
 obtain ⟨_, _, e1, a0, a1, a2, a3, a4, a5, _⟩ := hrow ai (by omega)
 cases e1
 obtain ⟨_, _, e1, b0, b1, b2, b3, b4, b5, _⟩ := hrow bi (by omega)
 cases e1
 refine Y.v (Y.l H 0 rfl rfl rfl) <| Y.v (Y.m rfl) <| Y.v (Y.X rfl rfl rfl rfl rfl) <| Y.v (Y.f rfl rfl) <| Y.v (Y.c (by assumption) rfl) ?_
 refine Y.v (Ev.mvB rfl) <| Y.g rfl rfl (fun hg => Y.l H 0 rfl rfl rfl) <| Y.g rfl rfl (fun hg => Y.m rfl) <| Y.g rfl rfl (fun hg => Ev.indexAddr (el_run rfl) (size_run rfl) (gvE hg rfl) (gvE hg rfl) rfl (by omega)) <| Y.g rfl rfl (fun hg => Ev.fieldAddr (fld_run rfl) (gvE hg rfl)) <| Y.g rfl rfl (fun hg => Ev.load1 (agg_run rfl) (gvE hg rfl) (by assumption)) ?_
 refine Y.g rfl rfl (fun hg => Y.l H 1 rfl rfl rfl) <| Y.g rfl rfl (fun hg => Ev.eql (gvE hg rfl) (gvE hg rfl)) <| Y.v (Ev.pickAnd rfl rfl rfl) <| Y.v (Ev.mvB rfl) <| Y.g rfl rfl (fun hg => Y.l H 0 rfl rfl rfl) <| Y.g rfl rfl (fun hg => Y.m rfl) <| Y.g rfl rfl (fun hg => Ev.indexAddr (el_run rfl) (size_run rfl) (gvE hg rfl) (gvE hg rfl) rfl (by omega)) <| Y.g rfl rfl (fun hg => Ev.fieldAddr (fld_run rfl) (gvE hg rfl)) <| Y.g rfl rfl (fun hg => Ev.load1 (agg_run rfl) (gvE hg rfl) (by assumption)) ?_
 refine Y.g rfl rfl (fun hg => Ev.not (gvE hg rfl)) <| Y.v (Ev.pickAnd rfl rfl rfl) <| OPS.nil_s ?_
 refine WP.cond rfl (fun hc0 => ?_) (fun hc0 => ?_)
 ·have hc : visC d s ai bi = true := by rw [visC, hga, hgb, show decide (bi < s.1.length) = true by simp [hn, hb], Bool.and_true]; exact hc0
  have hv : visR d s ai bi arc room cost fwd = (s.1.set bi ⟨ai, arc, room, fwd, true, d + 1⟩, true) := by simp only [visR, Int.toNat_natCast, hc, if_true]
  refine Y.qr <| Y.v (Y.l H 0 rfl rfl rfl) <| Y.v (Y.m rfl) <| Y.v (Y.m rfl) <| Y.v (Y.m rfl) <| Y.v (Y.m rfl) <| Y.v (Ev.mvB rfl) <| Y.v (Y.l H 1 rfl rfl rfl) <| Y.v (Y.p rfl rfl) <| Y.v (Ev.build (bld_116_0_1_2_3_4_5 rfl rfl rfl rfl rfl rfl)) <| Y.v (Y.X rfl rfl rfl rfl rfl) <| OPS.store 3 _ rfl rfl rfl (size_run rfl) rfl rfl rfl rfl H rfl (by simp only [rows_length stepCells_len]; omega) ?_
  clear H; intro w H
  have hp := putL_rows stepCells_len s.1 bi ⟨ai, arc, room, fwd, true, d + 1⟩ (by omega)
  rw [Nat.zero_add] at H
  replace H : SH w0 [gs, gd, gg, ga] w [⟨gs, 112, [.slice (some ⟨ga, 0, none⟩) n n]⟩, ⟨gd, 3, [I d]⟩, ⟨gg, 4, [Bo s.2]⟩, ⟨ga, 116, putL (s.1.flatMap stepCells) (bi * 6) (stepCells ⟨ai, arc, room, fwd, true, d + 1⟩)⟩] := H
  rw [hp] at H
  refine Y.z <| Y.r <| Y.st 2 H rfl (cB rfl) rfl ?_
  clear H; intro w H; try simp only [List.set_cons_zero, List.set_cons_succ, putL, Nat.zero_add] at H
  refine Y.z <| ⟨_, rfl, ?_⟩
  exact ⟨rfl, by rw [hv]; exact H⟩
 have hc : visC d s ai bi = false := by rw [visC, hga, hgb, show decide (bi < s.1.length) = true by simp [hn, hb], Bool.and_true]; exact hc0
 have hv : visR d s ai bi arc room cost fwd = s := by simp only [visR, Int.toNat_natCast, hc]; rfl
 refine Y.k <| ⟨_, rfl, ?_⟩
 exact ⟨rfl, by rw [hv]; exact H⟩
end Go.Proofs.Ytgjfjbphngamgaa.Flo

/-
 Walk: reach.
-/
set_option linter.all false
namespace Go.Proofs.Ytgjfjbphngamgaa.Flo
open Go Go.W Go.RowKit
def reachStep (l : List Arc) (on : List Int) (d : Int) (sts : List Step) : RSt := eachM (visR d) l on l.length (sts, false)
def reachIter (l : List Arc) (on : List Int) : Nat → Int → List Step → List Step
 | 0, _, sts => sts
 | f + 1, d, sts => if (reachStep l on d sts).2 = true then reachIter l on f (d + 1) (reachStep l on d sts).1 else (reachStep l on d sts).1
def reachInit (n f : Nat) : List Step := (List.replicate n default).set f ⟨f, -1, 0, false, true, 0⟩
def reachFin (l : List Arc) (on : List Int) (n f : Nat) : List Step := reachIter l on (n + 1) 0 (reachInit n f)
def unk (sts : List Step) : Nat := sts.countP fun s => !s.known
theorem visR_length (d : Int) (s : RSt) (a b : Int) (arc : Nat) (room cost : Int) (fwd : Bool) : (visR d s a b arc room cost fwd).1.length = s.1.length := by
 unfold visR; split <;> simp
def RInv (sts0 : List Step) (s : RSt) : Prop := s.1.length = sts0.length ∧ (s.2 = false → s.1 = sts0) ∧ (s.2 = true → unk s.1 < unk sts0)
theorem unk_set {sts : List Step} {b : Nat} {x : Step} (hb : b < sts.length) (h : sts[b].known = false) (hx : x.known = true) : unk (sts.set b x) < unk sts := by
 unfold unk
 have h1 : (sts.countP fun s => !s.known) = ((sts.take b).countP fun s => !s.known) + ((sts.drop b).countP fun s => !s.known) := by
  rw [← List.countP_append, List.take_append_drop]
 have h2 : ((sts.set b x).countP fun s => !s.known) = ((sts.take b).countP fun s => !s.known) + ((sts.drop (b+1)).countP fun s => !s.known) := by
  rw [List.set_eq_take_append_cons_drop, if_pos hb, List.countP_append, List.countP_cons]; simp [hx]
 rw [h1, h2, List.drop_eq_getElem_cons hb, List.countP_cons]
 simp [h]
theorem visR_inv {sts0 : List Step} (d : Int) (s : RSt) (a b : Int) (arc : Nat) (room cost : Int) (fwd : Bool) (h : RInv sts0 s) : RInv sts0 (visR d s a b arc room cost fwd) := by
 refine ⟨by rw [visR_length]; exact h.1, ?_, ?_⟩
 ·unfold visR; split
  ·intro hc; cases hc
  ·exact h.2.1
 ·unfold visR; split
  ·rename_i hc
   intro _
   simp only
   unfold visC at hc
   simp only [Bool.and_eq_true, Bool.not_eq_true', decide_eq_true_eq] at hc
   have hb : b.toNat < s.1.length := hc.2
   have hk : s.1[b.toNat].known = false := by have := hc.1.2; simpa [hb] using this
   have h1 := unk_set hb hk (x := ⟨a, arc, room, fwd, true, d + 1⟩) rfl
   cases hs : s.2 with
   | false => rw [h.2.1 hs] at h1; rw [h.2.1 hs]; exact h1
   | true => have := h.2.2 hs; omega
  ·exact h.2.2
theorem eachM_inv {σ : Type} {vis : VisF σ} {l : List Arc} {on : List Int} {Inv : σ → Prop} (h : ∀ s a b arc room cost fwd, Inv s → Inv (vis s a b arc room cost fwd)) {s : σ} (hs : Inv s) : ∀ k, Inv (eachM vis l on k s)
 | 0 => hs
 | k + 1 => by
  have ih := eachM_inv (l := l) (on := on) h hs k
  rw [eachM]
  have h1 : Inv (eachF vis k (l.getD k default) (on.getD k 0) (eachM vis l on k s)) := by unfold eachF; split; exact h _ _ _ _ _ _ _ ih; exact ih
  unfold eachB; split
  ·exact h _ _ _ _ _ _ _ h1
  ·exact h1
theorem reachStep_inv (l : List Arc) (on : List Int) (d : Int) (sts : List Step) : RInv sts (reachStep l on d sts) :=
 eachM_inv (fun s a b arc room cost fwd h => visR_inv d s a b arc room cost fwd h) ⟨rfl, fun _ => rfl, fun h => by cases h⟩ _
set_option maxHeartbeats 400000 in
theorem flowReach (n f : Nat) (A B : Option Addr) (l : List Arc) (on : List Int) (cap cap2 : Nat) (w0 : World) (hf : f < n) (hn : n ≤ 64)
  (hz : ArcsAt w0 A l) (ho : IntsAt w0 B on) (hlen : on.length = l.length) (hl : l.length ≤ 4096)
  (hcap : ∀ i (h : i < l.length), -1000000 ≤ l[i].cap ∧ l[i].cap ≤ 1000000 ∧ -1000000 ≤ l[i].cost ∧ l[i].cost ≤ 1000000) (hon : ∀ i (h : i < on.length), -1000000000 ≤ on[i] ∧ on[i] ≤ 1000000000)
  (hnode : ∀ i (h : i < l.length), (0 ≤ l[i].f ∧ l[i].f < n) ∧ (0 ≤ l[i].t ∧ l[i].t < n)) :
  Calls Try.prog 94 #[.agg #[I n, .slice A l.length cap, .slice B on.length cap2], I f] w0
   fun e w' => ∃ ga, e = .returned (.slice (some ⟨ga, 0, none⟩) n n) ∧ SH w0 [] w' [⟨ga, 116, (reachFin l on n f).flatMap stepCells⟩] := by
 have H := SH.refl w0
 refine Calls.ofWP Try.func94 rfl Try.results94 Try.ntmps94 rfl <| Y.qr <| Y.bx (cA rfl) H ?_
 clear H; intro g2 w H
 refine Y.v (Ev.asS rfl) <| Y.z <| Y.qr <| Y.v (Y.f rfl rfl) <| Y.v (Y.f rfl rfl) <| Y.v (Y.l H 0 rfl rfl rfl) <| OPS.makeSlice rfl rfl rfl rfl (sl_run rfl) rfl rfl rfl (by omega) (by omega) H ?_
 clear H; intro g11 w H
 refine Y.al H rfl rfl ?_
 clear H; intro g5 w H
 refine Y.st 0 H rfl (cS rfl) rfl ?_
 clear H; intro w H; try simp only [List.set_cons_zero, List.set_cons_succ, putL, Nat.zero_add] at H
 refine Y.z <| Y.qr <| Y.v (Y.l H 0 rfl rfl rfl) <| Y.v (Y.m rfl) <| Y.v (Y.m rfl) <| Y.v (Ev.build (bld_116_0_1_4 rfl rfl rfl)) <| Y.v (Y.X rfl rfl rfl rfl rfl) <| OPS.store 1 _ rfl rfl rfl (size_run rfl) rfl (cA rfl) rfl rfl H rfl (by simp only [mkL_length, List.length_cons, List.length_nil]; omega) ?_
 clear H; intro w H
 have hp := putL_rows stepCells_len (List.replicate n default) f ⟨f, -1, 0, false, true, 0⟩ (by simpa using hf)
 rw [← mkL_rows] at hp
 rw [Nat.zero_add] at H
 replace H : SH w0 [] w [⟨g5, 112, [.slice (some ⟨g11, 0, none⟩) n n]⟩, ⟨g11, 116, putL (mkL n (stepCells default)) (f * 6) (stepCells ⟨f, -1, 0, false, true, 0⟩)⟩, ⟨g2, 111, [I n, .slice A l.length cap, .slice B on.length cap2]⟩] := H
 rw [hp] at H
 refine Y.z <| Y.q <| Y.qr <| Y.al H rfl rfl ?_
 clear H; intro g6 w H
 refine Y.al H rfl rfl ?_
 clear H; intro g7 w H
 refine Y.st 1 H rfl (cI rfl) rfl ?_
 clear H; intro w H; try simp only [List.set_cons_zero, List.set_cons_succ, putL, Nat.zero_add] at H
 refine Y.st 0 H rfl (cB rfl) rfl ?_
 clear H; intro w H; try simp only [List.set_cons_zero, List.set_cons_succ, putL, Nat.zero_add] at H
 refine Y.z <| WP.block <| WP.loop [6, 7, 17, 18, 19, 20, 21, 22, 23, 24] (fun k e w' => ∃ (gg gd : Nat) (d : Nat) (g : Bool) (sts : List Step), e 6 = .pointer (some ⟨gd, 0, none⟩) ∧ e 7 = .pointer (some ⟨gg, 0, none⟩) ∧ SH w0 [] w' [⟨g2, 111, [I n, .slice A l.length cap, .slice B on.length cap2]⟩, ⟨g5, 112, [.slice (some ⟨g11, 0, none⟩) n n]⟩, ⟨gd, 3, [I d]⟩, ⟨gg, 4, [Bo g]⟩, ⟨g11, 116, sts.flatMap stepCells⟩] ∧ sts.length = n ∧ d + k ≤ n + 1 ∧ (g = true → unk sts < k ∧ reachFin l on n f = reachIter l on k d sts) ∧ (g = false → reachFin l on n f = sts)) (n + 1) (⟨g7, g6, 0, true, reachInit n f, rfl, rfl, H.reidx [4, 2, 1, 0, 3] (by decide) rfl, by simp [reachInit], by omega, fun _ => ⟨by have h1 : unk (reachInit n f) ≤ (reachInit n f).length := List.countP_le_length; simp [reachInit] at h1 ⊢; omega, rfl⟩, fun h => by cases h⟩) ?_
 clear H
 rintro k u w ⟨gg, gd, d, g, sts, h6, h7, H, hst, hd, hg1, hg2⟩
 refine WP.know (t := 6) h6 (WP.know (t := 7) h7 ?_)
 refine Y.q <| Y.qr <| Y.v (Y.l H 3 rfl rfl rfl) <| Y.z ?_
 refine WP.cond rfl (fun hc4 => ?_) (fun hc4 => ?_)
 ·subst hc4
  obtain ⟨hk, hfin⟩ := hg1 rfl
  clear hg1 hg2
  refine Y.k <| Y.q <| WP.block <| Y.qr <| Y.st 3 H rfl (cB rfl) rfl ?_
  clear H; intro w H; try simp only [List.set_cons_zero, List.set_cons_succ, putL, Nat.zero_add] at H
  refine Y.z <| Y.r <| Y.v (Y.o H 0 rfl rfl) <| Y.v (Ev.makeFunc) ?_
  have hfr : ∀ g ∈ [g5, gd, gg, g11], w0.heap.size ≤ g := fun g hg => H.fresh g (List.mem_cons_of_mem _ hg)
  have hA : l ≠ [] → Off A [g5, gd, gg, g11] := hz.off (fun _ => by simp [arcCells]) hfr
  have hB : on ≠ [] → Off B [g5, gd, gg, g11] := ho.off hfr
  have hvF : ∀ i (h : i < l.length) (h2 : i < on.length) (s : RSt) w, s.1.length = n → on[i] < l[i].cap → SH w [g5, gd, gg, g11] w (reachLv g5 gd gg g11 n d s) → Calls Try.prog 103 ([I l[i].f, I l[i].t, I i, I (l[i].cap - on[i]), I l[i].cost, .bool true] ++ [Value.pointer (some ⟨g5, 0, none⟩), Value.pointer (some ⟨gd, 0, none⟩), Value.pointer (some ⟨gg, 0, none⟩)]).toArray w fun e w' => e = .returned (.tuple #[]) ∧ SH w [g5, gd, gg, g11] w' (reachLv g5 gd gg g11 n d (visR d s l[i].f l[i].t i (l[i].cap - on[i]) l[i].cost true)) := by
   intro i h h2 s w hs _ Hw
   obtain ⟨⟨p1, p2⟩, p3, p4⟩ := hnode i h
   obtain ⟨ai, hai⟩ := Int.eq_ofNat_of_zero_le p1
   obtain ⟨bi, hbi⟩ := Int.eq_ofNat_of_zero_le p3
   rw [hai, hbi]
   exact reachVisit g5 gd gg g11 n ai bi d _ _ i true s w hs (by omega) (by omega) (by omega) (by omega) Hw
  have hvB : ∀ i (h : i < l.length) (h2 : i < on.length) (s : RSt) w, s.1.length = n → 0 < on[i] → SH w [g5, gd, gg, g11] w (reachLv g5 gd gg g11 n d s) → Calls Try.prog 103 ([I l[i].t, I l[i].f, I i, I on[i], I (-l[i].cost), .bool false] ++ [Value.pointer (some ⟨g5, 0, none⟩), Value.pointer (some ⟨gd, 0, none⟩), Value.pointer (some ⟨gg, 0, none⟩)]).toArray w fun e w' => e = .returned (.tuple #[]) ∧ SH w [g5, gd, gg, g11] w' (reachLv g5 gd gg g11 n d (visR d s l[i].t l[i].f i on[i] (-l[i].cost) false)) := by
   intro i h h2 s w hs _ Hw
   obtain ⟨⟨p1, p2⟩, p3, p4⟩ := hnode i h
   obtain ⟨ai, hai⟩ := Int.eq_ofNat_of_zero_le p1
   obtain ⟨bi, hbi⟩ := Int.eq_ofNat_of_zero_le p3
   rw [hai, hbi]
   exact reachVisit g5 gd gg g11 n bi ai d _ _ i false s w hs (by omega) (by omega) (by omega) (by omega) Hw
  refine OPS.call (d := some 22) rfl rfl rfl (EvC.func (fun_run rfl)) (flowEach (visR d) (reachLv g5 gd gg g11 n d) [g5, gd, gg, g11] (fun _ => rfl) (fun s => s.1.length = n) 103 [.pointer (some ⟨g5, 0, none⟩), .pointer (some ⟨gd, 0, none⟩), .pointer (some ⟨gg, 0, none⟩)] n A B l on cap cap2 (sts, false) _ rfl (hz.sh H) hA (ho.sh H) hB hlen hl hcap hon hvF (fun i _ _ s hs _ => by rw [visR_length]; exact hs) hvB (fun i _ _ s hs _ => by rw [visR_length]; exact hs) hst (H.restart (List.sublist_cons_self _ _))) ?_
  rintro _ w ⟨rfl, Hc⟩
  refine ⟨_, rfl, ?_⟩
  replace H := SH.call (L1 := [⟨g2, 111, [I n, .slice A l.length cap, .slice B on.length cap2]⟩]) (Lv := reachLv g5 gd gg g11 n d (sts, false)) H Hc
  clear Hc
  have hinv := reachStep_inv l on d sts
  have hstep : eachM (visR d) l on l.length (sts, false) = reachStep l on d sts := rfl
  rw [hstep] at H
  generalize hr : reachStep l on d sts = r at H hinv
  unfold reachLv at H
  refine Y.z <| Y.q <| Y.qr <| Y.v (Y.l H 2 rfl rfl rfl) <| Y.v (Y.l H 3 rfl rfl rfl) <| Y.z <| Y.r <| Y.al H rfl rfl ?_
  clear H; intro g6 w H
  refine Y.st 0 H rfl (cI rfl) rfl ?_
  clear H; intro w H; try simp only [List.set_cons_zero, List.set_cons_succ, putL, Nat.zero_add] at H
  refine Y.al H rfl rfl ?_
  clear H; intro g7 w H
  refine Y.st 0 H rfl (cB rfl) rfl ?_
  clear H; intro w H; try simp only [List.set_cons_zero, List.set_cons_succ, putL, Nat.zero_add] at H
  refine Y.z ?_
  replace H := H.reidx (L' := [⟨g2, 111, [I n, .slice A l.length cap, .slice B on.length cap2]⟩, ⟨g5, 112, [.slice (some ⟨g11, 0, none⟩) n n]⟩, ⟨g6, 3, [I d]⟩, ⟨g7, 4, [Bo r.2]⟩, ⟨g11, 116, r.1.flatMap stepCells⟩]) [2, 3, 1, 0, 6] (by decide) rfl
  refine Y.r <| Y.v (Y.l H 2 rfl rfl rfl) <| Y.v (Y.p rfl rfl) <| Y.st 2 H rfl (cI rfl) rfl ?_
  clear H; intro w H; try simp only [List.set_cons_zero, List.set_cons_succ, putL, Nat.zero_add] at H
  refine Y.z ?_
  have hk1 : ∃ k', k = k' + 1 := ⟨k - 1, by omega⟩
  obtain ⟨k', rfl⟩ := hk1
  refine ⟨(by repeat (first | exact Agree.refl _ _ | exact Agree.mix _ _ _ | refine Agree.upd rfl ?_ | refine Agree.mix2 rfl ?_)), k', by omega, g7, g6, d + 1, r.2, r.1, rfl, rfl, H, by rw [hinv.1, hst], by omega, fun hr2 => ⟨by have := hinv.2.2 hr2; omega, ?_⟩, fun hr2 => ?_⟩
  ·rw [hfin, reachIter, hr, if_pos hr2]; rfl
  ·rw [hfin, reachIter, hr, if_neg (by simp [hr2])]
 refine WP.exit <| XB.hit <| Y.qr <| Y.v (Y.l H 1 rfl rfl rfl) <| Y.v (Ev.asS rfl) <| Y.z ?_
 refine WP.ret ⟨_, rfl, ?_⟩
 subst hc4
 rw [hg2 rfl]
 exact ⟨g11, rfl, H.reidx [4] (by decide) rfl⟩
end Go.Proofs.Ytgjfjbphngamgaa.Flo

/-
 Walk: push.
-/
set_option linter.all false
namespace Go.Proofs.Ytgjfjbphngamgaa.Flo
open Go Go.W Go.RowKit
/-- from node k back to f along the steps: the nodes passed, k first, without f -/
def Chain (sts : List Step) (f m : Nat) : List Nat → Nat → Prop
 | [], k => k = f
 | x :: xs, k => k = x ∧ k ≠ f ∧ k < sts.length ∧ ∃ p ai : Nat, (sts.getD k default).from_ = p ∧ (sts.getD k default).arc = ai ∧ ai < m ∧ Chain sts f m xs p
def minI (a b : Int) : Int := if b < a then b else a
def pushMin (sts : List Step) (ks : List Nat) (most : Int) : Int := ks.foldl (fun m k => minI m (sts.getD k default).room) most
def push1 (sts : List Step) (M : Int) (on : List Int) (k : Nat) : List Int :=
 let s := sts.getD k default
 on.set s.arc.toNat (if s.fwd = true then on.getD s.arc.toNat 0 + M else on.getD s.arc.toNat 0 - M)
def pushOn (sts : List Step) (ks : List Nat) (M : Int) (on : List Int) : List Int := ks.foldl (push1 sts M) on
theorem push1_length (sts : List Step) (M : Int) (on : List Int) (k : Nat) : (push1 sts M on k).length = on.length := by simp [push1]
theorem pushOn_length (sts : List Step) (M : Int) : ∀ (ks : List Nat) (on : List Int), (pushOn sts ks M on).length = on.length
 | [], _ => rfl
 | k :: ks, on => by unfold pushOn; rw [List.foldl_cons]; exact (pushOn_length sts M ks _).trans (push1_length sts M on k)
set_option maxHeartbeats 400000 in
theorem flowPush (gon : Nat) (A As : Option Addr) (la cap cap2 cap3 : Nat) (n f t most : Int) (fn tn : Nat) (hf : f = fn) (ht : t = tn) (sts : List Step) (on : List Int) (ks : List Nat) (w0 : World)
  (hs : RowsAt 6 stepCells w0 As sts) (hoff : sts ≠ [] → Off As [gon]) (hch : Chain sts fn on.length ks tn) (hks : ks.length ≤ 1000)
  (hM : -1000000 ≤ pushMin sts ks most ∧ pushMin sts ks most ≤ 1000000) (hon : ∀ i (h : i < on.length), -1000000000 ≤ on[i] ∧ on[i] ≤ 1000000000)
  (H0 : SH w0 [gon] w0 [⟨gon, 3, on.map I⟩]) :
  Calls Try.prog 59 #[.agg #[I n, .slice A la cap, .slice (some ⟨gon, 0, none⟩) on.length cap2], .slice As sts.length cap3, I f, I t, I most] w0
   fun e w' => e = .returned (I (pushMin sts ks most)) ∧ SH w0 [gon] w' [⟨gon, 3, (pushOn sts ks (pushMin sts ks most) on).map I⟩] := by
 subst hf ht
 have H := H0
 refine Calls.ofWP Try.func59 rfl Try.results59 Try.ntmps59 rfl <| Y.qr <| Y.bx (cA rfl) H ?_
 clear H; intro g5 w H
 refine Y.v (Ev.asI rfl) <| Y.z <| Y.q <| Y.qr <| Y.v (Y.m rfl) <| Y.v (Ev.asI rfl) <| Y.z <| WP.block <| WP.loop [4, 11, 14, 15, 16, 17, 18, 19, 20, 21, 22, 23, 24, 25, 26, 27, 28] (fun g e w' => w' = w ∧ ∃ (k : Nat) (m : Int) (xs : List Nat), xs.length = g ∧ e 11 = I k ∧ e 4 = I m ∧ Chain sts fn on.length xs k ∧ pushMin sts xs m = pushMin sts ks most) (ks.length) (⟨rfl, tn, most, ks, rfl, rfl, rfl, hch, rfl⟩) ?_
 rintro g u w' ⟨rfl, k, m, xs, hg, h11, h4, hc, hm⟩
 refine WP.know (t := 11) h11 (WP.know (t := 4) h4 ?_)
 refine Y.q <| Y.qr <| Y.v (Y.m rfl) <| Y.v (Y.m rfl) <| Y.v (Ev.neq rfl rfl) <| Y.z ?_
 refine WP.cond rfl (fun hc2 => ?_) (fun hc2 => ?_)
 ·have hkf : k ≠ fn := by intro he; simp [he] at hc2
  obtain ⟨x, xs, rfl⟩ : ∃ x xs', xs = x :: xs' := by
   cases xs with
   | nil => exact absurd hc hkf
   | cons x xs => exact ⟨x, xs, rfl⟩
  obtain ⟨rfl, _, hkl, p, ai, hp, hai, hal, hc⟩ := hc
  have hgd : sts.getD k default = sts[k] := by simp [hkl]
  rw [hgd] at hp hai
  obtain ⟨b, o, rfl, hrow⟩ := hs k hkl
  have hb : b ∉ [gon] := hoff (List.ne_nil_of_length_pos (by omega)) b o rfl
  obtain ⟨a0, a1, a2, a3, a4, a5, _⟩ := cellsAt_shS H hb hrow
  refine Y.k <| Y.q <| WP.block <| Y.r <| Y.v (Y.m rfl) <| Y.v (Ev.mvS rfl) <| Y.v (Y.m rfl) <| Y.v (Y.X rfl rfl rfl rfl rfl) <| Y.v (Y.f rfl rfl) <| Y.v (Y.c (by assumption) rfl) ?_
  refine Y.v (Ev.min rfl rfl) <| Y.v (Ev.asI rfl) <| Y.z <| Y.r <| Y.v (Ev.mvS rfl) <| Y.v (Y.m rfl) <| Y.v (Y.X rfl rfl rfl rfl rfl) <| Y.v (Y.f rfl rfl) <| Y.v (Y.c (by assumption) rfl) ?_
  refine Y.v (Ev.asI rfl) <| Y.z ?_
  have hm2 : pushMin sts xs (minI m sts[k].room) = pushMin sts ks most := by rw [← hm]; simp only [pushMin, List.foldl_cons, hgd]
  simp only [List.length_cons] at hg
  exact ⟨(by repeat (first | exact Agree.refl _ _ | exact Agree.mix _ _ _ | refine Agree.upd rfl ?_ | refine Agree.mix2 rfl ?_)), xs.length, by omega, rfl, p, minI m sts[k].room, xs, rfl, by rw [← hp]; rfl, rfl, hc, hm2⟩
 have hkf : k = fn := by simp at hc2; omega
 have hxs : xs = [] := by
  cases xs with
  | nil => rfl
  | cons x xs => exact absurd hkf hc.2.1
 subst hxs
 have hm' : m = pushMin sts ks most := hm
 subst hm'
 generalize hMM : pushMin sts ks most = M at *
 refine WP.exit <| XB.hit <| Y.q <| Y.qr <| Y.v (Y.m rfl) <| Y.v (Ev.asI rfl) <| Y.z <| WP.block <| WP.loop [12, 30, 31, 32, 33, 34, 35, 36, 37, 38, 39, 40, 41, 42, 43, 44, 45, 46, 47, 48, 49, 50, 51, 52, 53, 54, 55, 56, 57, 58, 59, 60, 61, 62, 63, 64, 65, 66] (fun g e w' => ∃ (k : Nat) (on' : List Int) (xs : List Nat), xs.length = g ∧ g ≤ ks.length ∧ e 12 = I k ∧ SH w0 [gon] w' [⟨g5, 111, [I n, .slice A la cap, .slice (some ⟨gon, 0, none⟩) on.length cap2]⟩, ⟨gon, 3, on'.map I⟩] ∧ Chain sts fn on.length xs k ∧ on'.length = on.length ∧ pushOn sts xs M on' = pushOn sts ks M on ∧ ∀ i (h : i < on'.length), -1000000000 - 1000000 * ((ks.length : Int) - g) ≤ on'[i] ∧ on'[i] ≤ 1000000000 + 1000000 * ((ks.length : Int) - g)) (ks.length) (⟨tn, on, ks, rfl, Nat.le_refl _, rfl, H, hch, rfl, rfl, fun i h => by have := hon i h; omega⟩) ?_
 clear H
 rintro g u2 w ⟨k, on', xs, hg, hgle, h12, H, hc, hol, hpo, hob⟩
 refine WP.know (t := 12) h12 <| Y.q <| Y.qr <| Y.v (Y.m rfl) <| Y.v (Y.m rfl) <| Y.v (Ev.neq rfl rfl) <| Y.z ?_
 refine WP.cond rfl (fun hc6 => ?_) (fun hc6 => ?_)
 ·have hkf : k ≠ fn := by intro he; simp [he] at hc6
  obtain ⟨x, xs, rfl⟩ : ∃ x xs', xs = x :: xs' := by
   cases xs with
   | nil => exact absurd hc hkf
   | cons x xs => exact ⟨x, xs, rfl⟩
  obtain ⟨rfl, _, hkl, p, ai, hp, hai, hal, hc⟩ := hc
  have hgd : sts.getD k default = sts[k] := by simp [hkl]
  rw [hgd] at hp hai
  obtain ⟨b, o, rfl, hrow⟩ := hs k hkl
  have hb : b ∉ [gon] := hoff (List.ne_nil_of_length_pos (by omega)) b o rfl
  obtain ⟨a0, a1, a2, a3, a4, a5, _⟩ := hrow
  rw [hp] at a0
  rw [hai] at a1
  have hal' : ai < on'.length := by omega
  have hob1 := hob ai hal'
  have hgd2 : on'.getD ai 0 = on'[ai] := by simp [hal']
  simp only [List.length_cons] at hg
  refine Y.k <| Y.q <| WP.block <| Y.qr <| Y.v (Ev.mvS rfl) <| Y.v (Y.m rfl) <| Y.v (Y.X rfl rfl rfl rfl rfl) <| Y.v (Y.f rfl rfl) <| Y.v (Y.c (H.ldS (by assumption) (by assumption)) rfl) ?_
  refine Y.z ?_
  refine WP.cond rfl (fun hc8 => ?_) (fun hc8 => ?_)
  ·refine WP.rtail 12 mixed (by kernel_rfl) H ?_
   clear H; intro w hbw9 H
   obtain ⟨_, _, e1, hx⟩ := onesOwn H 1 rfl ai hal'
   cases e1
   refine Y.v (Y.f rfl rfl) <| Y.v (Y.l H 0 rfl rfl rfl) <| Y.v (Ev.mvS rfl) <| Y.v (Y.m rfl) <| Y.v (Y.X rfl rfl rfl rfl rfl) <| Y.v (Y.f rfl rfl) <| Y.v (Y.c (H.ldS (by assumption) (by assumption)) rfl) ?_
   refine Y.v (Y.x rfl rfl rfl rfl) <| Y.v (Y.c (by assumption) rfl) ?_
   refine Y.v (Y.m rfl) <| Y.v (Y.p rfl rfl) <| Y.v (Y.x rfl rfl rfl rfl) <| OPS.nil_s <| OPS.store 1 _ rfl rfl rfl (size_run rfl) rfl (cI rfl) rfl rfl H rfl (by simp; omega) ?_
   clear H; intro w H
   have hpl := putL_ones (enc := I) on' ai (on'[ai] + M)
   rw [Nat.zero_add] at H
   replace H : SH w0 [gon] w [⟨g5, 111, [I n, .slice A la cap, .slice (some ⟨gon, 0, none⟩) on.length cap2]⟩, ⟨gon, 3, putL (on'.map I) ai [I (on'[ai] + M)]⟩] := H
   rw [hpl] at H
   have hp1 : push1 sts M on' k = on'.set ai (on'[ai] + M) := by simp only [push1, hgd, hai, Int.toNat_natCast, hgd2, hc8, if_true]
   refine Y.z <| Y.r <| Y.v (Ev.mvS rfl) <| Y.v (Y.m rfl) <| Y.v (Y.X rfl rfl rfl rfl rfl) <| Y.v (Y.f rfl rfl) <| Y.v (Y.c (H.ldS (by assumption) (by assumption)) rfl) ?_
   refine Y.v (Ev.asI rfl) <| Y.z ?_
   rw [← hp1] at H
   refine ⟨(by repeat (first | exact Agree.refl _ _ | exact Agree.mix _ _ _ | refine Agree.upd rfl ?_ | refine Agree.mix2 rfl ?_)), xs.length, by omega, p, push1 sts M on' k, xs, rfl, by omega, rfl, H, hc, by rw [push1_length]; exact hol, by rw [← hpo]; simp only [pushOn, List.foldl_cons], fun i h => ?_⟩
   have hi : i < on'.length := by rw [push1_length] at h; exact h
   have hh := hob i hi
   simp only [hp1, List.getElem_set]
   split
   ·rename_i he; subst he; omega
   ·omega
  refine WP.rtail 12 mixed (by kernel_rfl) H ?_
  clear H; intro w hbw10 H
  obtain ⟨_, _, e1, hx⟩ := onesOwn H 1 rfl ai hal'
  cases e1
  refine Y.v (Y.f rfl rfl) <| Y.v (Y.l H 0 rfl rfl rfl) <| Y.v (Ev.mvS rfl) <| Y.v (Y.m rfl) <| Y.v (Y.X rfl rfl rfl rfl rfl) <| Y.v (Y.f rfl rfl) <| Y.v (Y.c (H.ldS (by assumption) (by assumption)) rfl) ?_
  refine Y.v (Y.x rfl rfl rfl rfl) <| Y.v (Y.c (by assumption) rfl) ?_
  refine Y.v (Y.m rfl) <| Y.v (Y.s rfl rfl) <| Y.v (Y.x rfl rfl rfl rfl) <| OPS.nil_s <| OPS.store 1 _ rfl rfl rfl (size_run rfl) rfl (cI rfl) rfl rfl H rfl (by simp; omega) ?_
  clear H; intro w H
  have hpl := putL_ones (enc := I) on' ai (on'[ai] - M)
  rw [Nat.zero_add] at H
  replace H : SH w0 [gon] w [⟨g5, 111, [I n, .slice A la cap, .slice (some ⟨gon, 0, none⟩) on.length cap2]⟩, ⟨gon, 3, putL (on'.map I) ai [I (on'[ai] - M)]⟩] := H
  rw [hpl] at H
  have hp1 : push1 sts M on' k = on'.set ai (on'[ai] - M) := by simp only [push1, hgd, hai, Int.toNat_natCast, hgd2, hc8]; rfl
  refine Y.z <| Y.r <| Y.v (Ev.mvS rfl) <| Y.v (Y.m rfl) <| Y.v (Y.X rfl rfl rfl rfl rfl) <| Y.v (Y.f rfl rfl) <| Y.v (Y.c (H.ldS (by assumption) (by assumption)) rfl) ?_
  refine Y.v (Ev.asI rfl) <| Y.z ?_
  rw [← hp1] at H
  refine ⟨(by repeat (first | exact Agree.refl _ _ | exact Agree.mix _ _ _ | refine Agree.upd rfl ?_ | refine Agree.mix2 rfl ?_)), xs.length, by omega, p, push1 sts M on' k, xs, rfl, by omega, rfl, H, hc, by rw [push1_length]; exact hol, by rw [← hpo]; simp only [pushOn, List.foldl_cons], fun i h => ?_⟩
  have hi : i < on'.length := by rw [push1_length] at h; exact h
  have hh := hob i hi
  simp only [hp1, List.getElem_set]
  split
  ·rename_i he; subst he; omega
  ·omega
 refine WP.exit <| XB.hit <| Y.qr <| Y.v (Y.m rfl) <| Y.v (Ev.asI rfl) <| Y.z ?_
 refine WP.ret ⟨_, rfl, ?_⟩
 have hkf : k = fn := by simp at hc6; omega
 have hxs : xs = [] := by
  cases xs with
  | nil => rfl
  | cons x xs => exact absurd hkf hc.2.1
 subst hxs
 rw [← hpo]
 exact ⟨rfl, H.drop (List.sublist_cons_self _ _)⟩
end Go.Proofs.Ytgjfjbphngamgaa.Flo

/-
 Plain: flows on a list of arcs: what flows out of a set of nodes; cuts; a push along a chain.
-/
set_option linter.all false
namespace Go.Proofs.Ytgjfjbphngamgaa.Flo
open Go Go.W
/-- what flows out by a potential: the sum over the arcs of on * (p from - p to) -/
def netOut (p : Int → Int) : List Arc → List Int → Int
 | a :: l, x :: on => x * (p a.f - p a.t) + netOut p l on
 | _, _ => 0
def ind (v : Int) : Int → Int := fun u => if u = v then 1 else 0
def NodesOk (n : Nat) (l : List Arc) : Prop := ∀ a ∈ l, (0 ≤ a.f ∧ a.f < n) ∧ (0 ≤ a.t ∧ a.t < n)
structure VFlow (l : List Arc) (on : List Int) : Prop where
 len : on.length = l.length
 bd : ∀ i (h : i < l.length) (h2 : i < on.length), 0 ≤ on[i] ∧ on[i] ≤ l[i].cap
/-- a flow of an amount -/
structure IsFlow (n : Nat) (l : List Arc) (s t : Int) (on : List Int) (amt : Int) : Prop where
 v : VFlow l on
 cons : ∀ u : Int, 0 ≤ u → u < n → u ≠ s → u ≠ t → netOut (ind u) l on = 0
 amt : netOut (ind s) l on = amt
def cutCap (S : Int → Bool) : List Arc → Int
 | [] => 0
 | a :: l => (if (S a.f && !S a.t) = true then a.cap else 0) + cutCap S l
def sumTo (f : Int → Int) : Nat → Int
 | 0 => 0
 | n + 1 => sumTo f n + f n
theorem sumTo_zero (n : Nat) : sumTo (fun _ => 0) n = 0 := by
 induction n with
 | zero => rfl
 | succ n ih => simp [sumTo, ih]
theorem sumTo_add (f g : Int → Int) (n : Nat) : sumTo (fun u => f u + g u) n = sumTo f n + sumTo g n := by
 induction n with
 | zero => rfl
 | succ n ih => simp only [sumTo, ih]; omega
theorem sumTo_congr {f g : Int → Int} {n : Nat} (h : ∀ u : Int, 0 ≤ u → u < n → f u = g u) : sumTo f n = sumTo g n := by
 induction n with
 | zero => rfl
 | succ n ih => simp only [sumTo]; rw [ih fun u h1 h2 => h u h1 (by omega), h n (by omega) (by omega)]
theorem sumTo_pick (q : Int → Int) (v : Int) (c : Int) : ∀ n : Nat, 0 ≤ v → v < n → sumTo (fun u => q u * (c * ind u v)) n = q v * c
 | 0, h0, h => by omega
 | n + 1, h0, h => by
  simp only [sumTo]
  by_cases hv : v = n
  ·subst hv
   have : sumTo (fun u => q u * (c * ind u (n : Int))) n = sumTo (fun _ => 0) n := sumTo_congr fun u h1 h2 => by
    rw [show ind u (n : Int) = 0 from if_neg (by omega)]; simp
   rw [this, sumTo_zero]; simp [ind]
  ·rw [sumTo_pick q v c n h0 (by omega)]; simp [ind, hv]
/-- a potential's outflow is the sum of the nodes' -/
theorem netOut_sum (n : Nat) (p : Int → Int) : ∀ (l : List Arc) (on : List Int), NodesOk n l → netOut p l on = sumTo (fun u => p u * netOut (ind u) l on) n
 | [], on, _ => by simp [netOut, sumTo_zero]
 | a :: l, [], _ => by simp [netOut, sumTo_zero]
 | a :: l, x :: on, h => by
  have ha := h a (List.mem_cons_self ..)
  have ih := netOut_sum n p l on fun b hb => h b (List.mem_cons_of_mem _ hb)
  have e1 : sumTo (fun u => p u * netOut (ind u) (a :: l) (x :: on)) n = sumTo (fun u => p u * (x * ind u a.f)) n + (sumTo (fun u => p u * (-x * ind u a.t)) n + sumTo (fun u => p u * netOut (ind u) l on) n) := by
   rw [← sumTo_add, ← sumTo_add]
   refine sumTo_congr fun u _ _ => ?_
   simp only [netOut, Int.mul_add, Int.mul_sub, Int.neg_mul, Int.mul_neg]
   omega
  rw [e1, sumTo_pick p a.f x n ha.1.1 ha.1.2, sumTo_pick p a.t (-x) n ha.2.1 ha.2.2, ← ih]
  simp only [netOut, Int.mul_sub, Int.mul_neg, Int.mul_comm]
  omega
theorem sumTo_single (f : Int → Int) (v : Int) : ∀ n : Nat, 0 ≤ v → v < n → (∀ u : Int, 0 ≤ u → u < n → u ≠ v → f u = 0) → sumTo f n = f v
 | 0, h0, h, _ => by omega
 | n + 1, h0, h, hz => by
  simp only [sumTo]
  by_cases hv : v = n
  ·subst hv
   rw [show sumTo f n = sumTo (fun _ => 0) n from sumTo_congr fun u h1 h2 => hz u h1 (by omega) (by omega), sumTo_zero]; omega
  ·rw [sumTo_single f v n h0 (by omega) fun u h1 h2 h3 => hz u h1 (by omega) h3, hz n (by omega) (by omega) (fun h => hv h.symm)]; omega
def indB (S : Int → Bool) : Int → Int := fun u => if S u = true then 1 else 0
/-- the amount is what flows out of any set with s and without t -/
theorem IsFlow.set {n : Nat} {l : List Arc} {s t : Int} {on : List Int} {amt : Int} (hf : IsFlow n l s t on amt) (hn : NodesOk n l) (hs : 0 ≤ s ∧ s < n) {S : Int → Bool} (h1 : S s = true) (h2 : S t = false) : netOut (indB S) l on = amt := by
 rw [netOut_sum n _ l on hn, sumTo_single _ s n hs.1 hs.2, hf.amt]
 ·simp [indB, h1]
 ·intro u hu0 hu1 hus
  by_cases hut : u = t
  ·subst hut; simp [indB, h2]
  ·rw [hf.cons u hu0 hu1 hus hut]; simp
theorem netOut_le_cut (S : Int → Bool) : ∀ (l : List Arc) (on : List Int), VFlow l on → netOut (indB S) l on ≤ cutCap S l
 | [], [], _ => by simp [netOut, cutCap]
 | a :: l, x :: on, h => by
  have h0 := h.bd 0 (by simp) (by simp)
  simp only [List.getElem_cons_zero] at h0
  have ih := netOut_le_cut S l on ⟨by simpa using h.len, fun i hi hi2 => h.bd (i + 1) (Nat.succ_lt_succ hi) (Nat.succ_lt_succ hi2)⟩
  simp only [netOut, cutCap, indB]
  cases S a.f <;> cases S a.t <;> simp <;> omega
 | [], _ :: _, h => by have := h.len; simp at this
 | _ :: _, [], h => by have := h.len; simp at this
/-- no flow is greater than a cut -/
theorem weak_dual {n : Nat} {l : List Arc} {s t : Int} {on : List Int} {amt : Int} (hf : IsFlow n l s t on amt) (hn : NodesOk n l) (hs : 0 ≤ s ∧ s < n) {S : Int → Bool} (h1 : S s = true) (h2 : S t = false) : amt ≤ cutCap S l := by
 rw [← hf.set hn hs h1 h2]; exact netOut_le_cut S l on hf.v
/-- where the arcs out are full and the arcs in empty, the flow out is the cut -/
theorem netOut_eq_cut (S : Int → Bool) : ∀ (l : List Arc) (on : List Int), on.length = l.length → (∀ i (h : i < l.length) (h2 : i < on.length), (S l[i].f = true → S l[i].t = false → on[i] = l[i].cap) ∧ (S l[i].f = false → S l[i].t = true → on[i] = 0)) → netOut (indB S) l on = cutCap S l
 | [], [], _, _ => by simp [netOut, cutCap]
 | a :: l, x :: on, hl, h => by
  have h0 := h 0 (by simp) (by simp)
  simp only [List.getElem_cons_zero] at h0
  have ih := netOut_eq_cut S l on (by simpa using hl) fun i hi hi2 => h (i + 1) (Nat.succ_lt_succ hi) (Nat.succ_lt_succ hi2)
  simp only [netOut, cutCap, indB]
  cases hf : S a.f <;> cases ht : S a.t <;> simp [hf, ht] at h0 ⊢ <;> omega
 | [], _ :: _, h, _ => by simp at h
 | _ :: _, [], h, _ => by simp at h
/-- one arc changed -/
theorem netOut_set (p : Int → Int) : ∀ (l : List Arc) (on : List Int) (i : Nat) (x : Int) (h : i < l.length) (h2 : i < on.length), netOut p l (on.set i x) = netOut p l on + (x - on[i]) * (p l[i].f - p l[i].t)
 | [], _, _, _, h, _ => by simp at h
 | _ :: _, [], _, _, _, h => by simp at h
 | a :: l, y :: on, 0, x, _, _ => by simp only [List.set_cons_zero, netOut, List.getElem_cons_zero, Int.sub_mul]; omega
 | a :: l, y :: on, i + 1, x, h, h2 => by
  simp only [List.set_cons_succ, netOut, List.getElem_cons_succ]
  rw [netOut_set p l on i x (by simpa using h) (by simpa using h2)]; omega
theorem cutCap_nonneg (S : Int → Bool) : ∀ l : List Arc, (∀ a ∈ l, 0 ≤ a.cap) → 0 ≤ cutCap S l
 | [], _ => by simp [cutCap]
 | a :: l, h => by
  have := cutCap_nonneg S l fun b hb => h b (List.mem_cons_of_mem _ hb)
  have := h a (List.mem_cons_self ..)
  simp only [cutCap]; split <;> omega
theorem cutCap_le (S : Int → Bool) : ∀ l : List Arc, (∀ a ∈ l, 0 ≤ a.cap ∧ a.cap ≤ 65536) → cutCap S l ≤ 65536 * l.length
 | [], _ => by simp [cutCap]
 | a :: l, h => by
  have := cutCap_le S l fun b hb => h b (List.mem_cons_of_mem _ hb)
  have := h a (List.mem_cons_self ..)
  simp only [cutCap, List.length_cons]; split <;> omega
/-- THE GREATEST AMOUNT: a flow of the amount, and a cut of the capacity -/
def IsMax (n : Nat) (l : List Arc) (s t amt : Int) : Prop := (∃ on, IsFlow n l s t on amt) ∧ ∃ S : Int → Bool, S s = true ∧ S t = false ∧ cutCap S l = amt
theorem IsMax.unique {n : Nat} {l : List Arc} {s t a b : Int} (hn : NodesOk n l) (hs : 0 ≤ s ∧ s < n) (ha : IsMax n l s t a) (hb : IsMax n l s t b) : a = b := by
 obtain ⟨⟨on, h1⟩, S, h2, h3, h4⟩ := ha
 obtain ⟨⟨on', g1⟩, S', g2, g3, g4⟩ := hb
 have := weak_dual h1 hn hs g2 g3
 have := weak_dual g1 hn hs h2 h3
 omega
end Go.Proofs.Ytgjfjbphngamgaa.Flo

/-
 Plain: what reach finds: a set closed under the arcs that can take more, each node with the arc by which it was reached.
-/
set_option linter.all false
namespace Go.Proofs.Ytgjfjbphngamgaa.Flo
open Go Go.W
def kn (sts : List Step) (v : Nat) : Bool := (sts.getD v default).known
def dp (sts : List Step) (v : Nat) : Int := (sts.getD v default).depth
def Edge (l : List Arc) (on : List Int) (x : Step) (p v : Nat) : Prop :=
 x.from_ = p ∧ ∃ ai : Nat, x.arc = ai ∧ ∃ (h : ai < l.length) (h2 : ai < on.length),
  (x.fwd = true → l[ai].f = p ∧ l[ai].t = v ∧ x.room = l[ai].cap - on[ai] ∧ on[ai] < l[ai].cap) ∧ (x.fwd = false → l[ai].t = p ∧ l[ai].f = v ∧ x.room = on[ai] ∧ 0 < on[ai])
structure BI (l : List Arc) (on : List Int) (n : Nat) (d : Int) (sts0 r : List Step) : Prop where
 len : r.length = n
 old : ∀ v, v < n → kn sts0 v = true → r.getD v default = sts0.getD v default
 new : ∀ v, v < n → kn r v = true → kn sts0 v = false → dp r v = d + 1 ∧ ∃ p, p < n ∧ kn sts0 p = true ∧ dp sts0 p = d ∧ Edge l on (r.getD v default) p v
theorem getD_set {sts : List Step} {b v : Nat} {x : Step} (hb : b < sts.length) : (sts.set b x).getD v default = if b = v then x else sts.getD v default := by
 by_cases h : b = v
 ·subst h; simp [hb]
 ·simp [h, List.getElem?_set]
theorem vis_BI {l : List Arc} {on : List Int} {n : Nat} {d : Int} {sts0 : List Step} {r : RSt} (h : BI l on n d sts0 r.1) {a b : Nat} (ha : a < n) (hb : b < n) {arc : Nat} {room cost : Int} {fwd : Bool}
  (hE : Edge l on ⟨a, arc, room, fwd, true, d + 1⟩ a b) :
  BI l on n d sts0 (visR d r a b arc room cost fwd).1 ∧ (kn sts0 a = true → dp sts0 a = d → kn (visR d r a b arc room cost fwd).1 b = true) ∧ ∀ v, kn r.1 v = true → kn (visR d r a b arc room cost fwd).1 v = true := by
 have hbl : b < r.1.length := by rw [h.len]; exact hb
 unfold visR
 simp only [Int.toNat_natCast]
 by_cases hc : visC d r a b = true
 ·simp only [hc, if_true]
  unfold visC at hc
  simp only [Bool.and_eq_true, Bool.not_eq_true', decide_eq_true_eq] at hc
  obtain ⟨⟨⟨h1, h2⟩, h3⟩, _⟩ := hc
  have hka : kn sts0 a = true := by
   cases hk : kn sts0 a with
   | true => rfl
   | false => have := (h.new a ha h1 hk).1; unfold dp at this; omega
  have hea := h.old a ha hka
  refine ⟨⟨by simp [h.len], fun v hv hkv => ?_, fun v hv hkv hk0 => ?_⟩, fun _ _ => by simp [kn, hbl], fun v hv => ?_⟩
  ·rw [getD_set hbl]
   split
   ·rename_i he; subst he
    have := h.old b hv hkv
    unfold kn at hkv
    rw [this] at h3; rw [h3] at hkv; cases hkv
   ·exact h.old v hv hkv
  ·unfold dp
   rw [getD_set hbl]
   by_cases he : b = v
   ·subst he
    simp only [if_true]
    exact ⟨trivial, a, ha, hka, by rw [← hea]; exact h2, hE⟩
   ·simp only [if_neg he]
    have hkv' : kn r.1 v = true := by unfold kn at hkv ⊢; rw [getD_set hbl, if_neg he] at hkv; exact hkv
    exact h.new v hv hkv' hk0
  ·unfold kn at hv ⊢
   rw [getD_set hbl]; split
   ·rfl
   ·exact hv
 ·simp only [hc]
  refine ⟨h, fun hka hda => ?_, fun _ hv => hv⟩
  have hea := h.old a ha hka
  cases hkb : kn r.1 b with
  | true => simpa using hkb
  | false =>
   exfalso; apply hc
   unfold visC
   unfold kn at hkb hka
   unfold dp at hda
   simp only [hea, hka, hda, hkb, hbl, decide_true, Bool.not_false, Bool.and_self]
def Done (l : List Arc) (on : List Int) (d : Int) (sts0 r : List Step) (i : Nat) : Prop :=
 ∀ (h : i < l.length) (h2 : i < on.length), (on[i] < l[i].cap → kn sts0 l[i].f.toNat = true → dp sts0 l[i].f.toNat = d → kn r l[i].t.toNat = true) ∧ (0 < on[i] → kn sts0 l[i].t.toNat = true → dp sts0 l[i].t.toNat = d → kn r l[i].f.toNat = true)
theorem eachM_BI {l : List Arc} {on : List Int} {n : Nat} {d : Int} {sts0 : List Step} (hn : NodesOk n l) (hlen : on.length = l.length) (h0 : sts0.length = n) :
  ∀ k, k ≤ l.length → BI l on n d sts0 (eachM (visR d) l on k (sts0, false)).1 ∧ ∀ i, i < k → Done l on d sts0 (eachM (visR d) l on k (sts0, false)).1 i
 | 0, _ => ⟨⟨h0, fun _ _ _ => rfl, fun v _ h1 h2 => by rw [show kn sts0 v = true from h1] at h2; cases h2⟩, fun i hi => absurd hi (by omega)⟩
 | k + 1, hk => by
  obtain ⟨ih1, ih2⟩ := eachM_BI hn hlen h0 k (by omega)
  have hkl : k < l.length := by omega
  have hko : k < on.length := by omega
  rw [eachM_succ _ l on k _ hkl hko]
  generalize eachM (visR d) l on k (sts0, false) = r at ih1 ih2
  obtain ⟨⟨f0, f1⟩, t0, t1⟩ := hn l[k] (List.getElem_mem hkl)
  obtain ⟨a, ha⟩ := Int.eq_ofNat_of_zero_le f0
  obtain ⟨b, hb⟩ := Int.eq_ofNat_of_zero_le t0
  have han : a < n := by omega
  have hbn : b < n := by omega
  -- forwards
  have s1 : BI l on n d sts0 (eachF (visR d) k l[k] on[k] r).1 ∧ (on[k] < l[k].cap → kn sts0 a = true → dp sts0 a = d → kn (eachF (visR d) k l[k] on[k] r).1 b = true) ∧ ∀ v, kn r.1 v = true → kn (eachF (visR d) k l[k] on[k] r).1 v = true := by
   unfold eachF
   by_cases hc : on[k] < l[k].cap
   ·rw [if_pos hc, ha, hb]
    have hE : Edge l on ⟨a, k, l[k].cap - on[k], true, true, d + 1⟩ a b := ⟨rfl, k, rfl, hkl, hko, fun _ => ⟨ha, hb, rfl, hc⟩, fun h => by cases h⟩
    obtain ⟨g1, g2, g3⟩ := vis_BI ih1 han hbn (cost := l[k].cost) hE
    exact ⟨g1, fun _ => g2, g3⟩
   ·rw [if_neg hc]; exact ⟨ih1, fun h => absurd h hc, fun _ h => h⟩
  generalize eachF (visR d) k l[k] on[k] r = r1 at s1
  obtain ⟨b1, d1, m1⟩ := s1
  have s2 : BI l on n d sts0 (eachB (visR d) k l[k] on[k] r1).1 ∧ (0 < on[k] → kn sts0 b = true → dp sts0 b = d → kn (eachB (visR d) k l[k] on[k] r1).1 a = true) ∧ ∀ v, kn r1.1 v = true → kn (eachB (visR d) k l[k] on[k] r1).1 v = true := by
   unfold eachB
   by_cases hc : 0 < on[k]
   ·rw [if_pos hc, ha, hb]
    have hE : Edge l on ⟨b, k, on[k], false, true, d + 1⟩ b a := ⟨rfl, k, rfl, hkl, hko, (fun h => by cases h), fun _ => ⟨hb, ha, rfl, hc⟩⟩
    obtain ⟨g1, g2, g3⟩ := vis_BI b1 hbn han (cost := -l[k].cost) hE
    exact ⟨g1, fun _ => g2, g3⟩
   ·rw [if_neg hc]; exact ⟨b1, fun h => absurd h hc, fun _ h => h⟩
  obtain ⟨b2, d2, m2⟩ := s2
  refine ⟨b2, fun i hi h h2 => ?_⟩
  rcases Nat.lt_succ_iff_lt_or_eq.1 hi with hlt | rfl
  ·obtain ⟨q1, q2⟩ := ih2 i hlt h h2
   exact ⟨fun u1 u2 u3 => m2 _ (m1 _ (q1 u1 u2 u3)), fun u1 u2 u3 => m2 _ (m1 _ (q2 u1 u2 u3))⟩
  ·rw [ha, hb]
   simp only [Int.toNat_natCast]
   exact ⟨fun u1 u2 u3 => m2 _ (d1 u1 u2 u3), d2⟩
/-- what is known at the head of a round -/
structure GI (l : List Arc) (on : List Int) (n s : Nat) (d : Int) (sts : List Step) : Prop where
 len : sts.length = n
 src : kn sts s = true
 bd : ∀ v, v < n → kn sts v = true → 0 ≤ dp sts v ∧ dp sts v ≤ d
 edge : ∀ v, v < n → kn sts v = true → v ≠ s → ∃ p, p < n ∧ kn sts p = true ∧ dp sts p < dp sts v ∧ Edge l on (sts.getD v default) p v
 clo : ∀ i (h : i < l.length) (h2 : i < on.length), (on[i] < l[i].cap → kn sts l[i].f.toNat = true → dp sts l[i].f.toNat < d → kn sts l[i].t.toNat = true) ∧ (0 < on[i] → kn sts l[i].t.toNat = true → dp sts l[i].t.toNat < d → kn sts l[i].f.toNat = true)
theorem GI_step {l : List Arc} {on : List Int} {n s : Nat} {d : Int} {sts : List Step} (hn : NodesOk n l) (hlen : on.length = l.length) (h : GI l on n s d sts) (hs : s < n) (hd : 0 ≤ d) :
  GI l on n s (d + 1) (reachStep l on d sts).1 := by
 obtain ⟨hb, hdone⟩ := eachM_BI (d := d) hn hlen h.len l.length (Nat.le_refl _)
 have he : eachM (visR d) l on l.length (sts, false) = reachStep l on d sts := rfl
 rw [he] at hb hdone
 generalize (reachStep l on d sts).1 = r at hb hdone
 have hmono : ∀ v, v < n → kn sts v = true → kn r v = true ∧ dp r v = dp sts v := fun v hv hk => by
  have := hb.old v hv hk
  exact ⟨by unfold kn at hk ⊢; rw [this]; exact hk, by unfold dp; rw [this]⟩
 refine ⟨hb.len, (hmono s hs h.src).1, fun v hv hk => ?_, fun v hv hk hvs => ?_, fun i hi hi2 => ?_⟩
 ·cases h0 : kn sts v with
  | true => have := h.bd v hv h0; rw [(hmono v hv h0).2]; omega
  | false => have := (hb.new v hv hk h0).1; omega
 ·cases h0 : kn sts v with
  | true =>
   obtain ⟨p, hp, hkp, hdp, hE⟩ := h.edge v hv h0 hvs
   exact ⟨p, hp, (hmono p hp hkp).1, by rw [(hmono p hp hkp).2, (hmono v hv h0).2]; exact hdp, by rw [hb.old v hv h0]; exact hE⟩
  | false =>
   obtain ⟨h1, p, hp, hkp, hdp, hE⟩ := hb.new v hv hk h0
   exact ⟨p, hp, (hmono p hp hkp).1, by rw [(hmono p hp hkp).2]; omega, hE⟩
 ·obtain ⟨⟨f0, f1⟩, t0, t1⟩ := hn l[i] (List.getElem_mem hi)
  have hfn : l[i].f.toNat < n := by omega
  have htn : l[i].t.toNat < n := by omega
  obtain ⟨c1, c2⟩ := h.clo i hi hi2
  obtain ⟨e1, e2⟩ := hdone i hi hi hi2
  have back : ∀ v, v < n → kn r v = true → dp r v < d + 1 → kn sts v = true ∧ dp sts v ≤ d := fun v hv hk hdv => by
   cases h0 : kn sts v with
   | true => exact ⟨rfl, (h.bd v hv h0).2⟩
   | false => have := (hb.new v hv hk h0).1; omega
  refine ⟨fun u1 u2 u3 => ?_, fun u1 u2 u3 => ?_⟩
  ·obtain ⟨k1, k2⟩ := back _ hfn u2 u3
   by_cases hdd : dp sts l[i].f.toNat = d
   ·exact e1 u1 k1 hdd
   ·exact (hmono _ htn (c1 u1 k1 (by omega))).1
  ·obtain ⟨k1, k2⟩ := back _ htn u2 u3
   by_cases hdd : dp sts l[i].t.toNat = d
   ·exact e2 u1 k1 hdd
   ·exact (hmono _ hfn (c2 u1 k1 (by omega))).1
/-- what reach gives -/
structure Reached (l : List Arc) (on : List Int) (n s : Nat) (sts : List Step) : Prop where
 len : sts.length = n
 src : kn sts s = true
 pos : ∀ v, v < n → kn sts v = true → 0 ≤ dp sts v ∧ dp sts v ≤ n
 edge : ∀ v, v < n → kn sts v = true → v ≠ s → ∃ p, p < n ∧ kn sts p = true ∧ dp sts p < dp sts v ∧ Edge l on (sts.getD v default) p v
 clo : ∀ i (h : i < l.length) (h2 : i < on.length), (on[i] < l[i].cap → kn sts l[i].f.toNat = true → kn sts l[i].t.toNat = true) ∧ (0 < on[i] → kn sts l[i].t.toNat = true → kn sts l[i].f.toNat = true)
theorem reachIter_spec {l : List Arc} {on : List Int} {n s : Nat} (hn : NodesOk n l) (hlen : on.length = l.length) (hs : s < n) : ∀ (f : Nat) (d : Int) (sts : List Step), 0 ≤ d → unk sts < f → d + unk sts ≤ n → GI l on n s d sts → Reached l on n s (reachIter l on f d sts)
 | 0, _, _, _, hu, _, _ => absurd hu (by omega)
 | f + 1, d, sts, hd, hu, hB, h => by
  have hstep := GI_step hn hlen h hs hd
  have hinv := reachStep_inv l on d sts
  rw [reachIter]
  cases hr : (reachStep l on d sts).2 with
  | true =>
   simp only [if_true]
   exact reachIter_spec hn hlen hs f (d + 1) _ (by omega) (by have := hinv.2.2 hr; omega) (by have := hinv.2.2 hr; omega) hstep
  | false =>
   have he := hinv.2.1 hr
   simp only [Bool.false_eq_true, if_false]
   rw [he] at hstep ⊢
   refine ⟨h.len, h.src, fun v hv hk => by have := h.bd v hv hk; omega, h.edge, fun i hi hi2 => ?_⟩
   obtain ⟨⟨f0, f1⟩, t0, t1⟩ := hn l[i] (List.getElem_mem hi)
   obtain ⟨c1, c2⟩ := hstep.clo i hi hi2
   exact ⟨fun u1 u2 => c1 u1 u2 (by have := (h.bd _ (show l[i].f.toNat < n by omega) u2).2; omega), fun u1 u2 => c2 u1 u2 (by have := (h.bd _ (show l[i].t.toNat < n by omega) u2).2; omega)⟩
theorem reachFin_spec {l : List Arc} {on : List Int} {n s : Nat} (hn : NodesOk n l) (hlen : on.length = l.length) (hs : s < n) : Reached l on n s (reachFin l on n s) := by
 have hk : ∀ v, v < n → (kn (reachInit n s) v = true ↔ v = s) ∧ (v = s → dp (reachInit n s) v = 0) := fun v hv => by
  unfold kn dp reachInit
  rw [getD_set (by simpa using hs)]
  by_cases h : s = v
  ·subst h; simp
  ·simp [h, hv, Ne.symm h]
 have hu1 : unk (reachInit n s) ≤ n := by
  have h1 : unk (reachInit n s) ≤ (reachInit n s).length := List.countP_le_length
  simpa [reachInit] using h1
 refine reachIter_spec hn hlen hs (n + 1) 0 _ (by omega) (by omega) (by omega) ⟨by simp [reachInit], ((hk s hs).1).2 rfl, fun v hv hkv => ?_, fun v hv hkv hvs => absurd (((hk v hv).1).1 hkv) hvs, fun i hi hi2 => ?_⟩
 ·have := (hk v hv).2 (((hk v hv).1).1 hkv); omega
 ·obtain ⟨⟨f0, f1⟩, t0, t1⟩ := hn l[i] (List.getElem_mem hi)
  refine ⟨fun _ u2 u3 => ?_, fun _ u2 u3 => ?_⟩
  ·have := (hk _ (show l[i].f.toNat < n by omega)).2 (((hk _ (by omega)).1).1 u2); omega
  ·have := (hk _ (show l[i].t.toNat < n by omega)).2 (((hk _ (by omega)).1).1 u2); omega
end Go.Proofs.Ytgjfjbphngamgaa.Flo

/-
 Plain: from what reach finds to a greater flow, or to a proof that there is none.
-/
set_option linter.all false
namespace Go.Proofs.Ytgjfjbphngamgaa.Flo
open Go Go.W
def Path (rk : Nat → Int) (l : List Arc) (on : List Int) (n s : Nat) (sts : List Step) : List Nat → Nat → Prop
 | [], k => k = s
 | x :: xs, k => k = x ∧ k ≠ s ∧ k < n ∧ ∃ p, p < n ∧ rk p < rk k ∧ Edge l on (sts.getD k default) p k ∧ Path rk l on n s sts xs p
/-- each known node has an edge from a known node of lower rank -/
structure Tree (rk : Nat → Int) (l : List Arc) (on : List Int) (n s : Nat) (sts : List Step) : Prop where
 pos : ∀ v, v < n → kn sts v = true → 0 ≤ rk v ∧ rk v ≤ n
 edge : ∀ v, v < n → kn sts v = true → v ≠ s → ∃ p, p < n ∧ kn sts p = true ∧ rk p < rk v ∧ Edge l on (sts.getD v default) p v
theorem Reached.tree {l : List Arc} {on : List Int} {n s : Nat} {sts : List Step} (h : Reached l on n s sts) : Tree (dp sts) l on n s sts := ⟨h.pos, h.edge⟩
theorem path_of {rk : Nat → Int} {l : List Arc} {on : List Int} {n s : Nat} {sts : List Step} (h : Tree rk l on n s sts) : ∀ (m : Nat) (v : Nat), v < n → kn sts v = true → rk v ≤ m → ∃ ks, ks.length ≤ m ∧ Path rk l on n s sts ks v
 | 0, v, hv, hk, hm => by
  by_cases hvs : v = s
  ·exact ⟨[], by simp, hvs⟩
  ·obtain ⟨p, hp, hkp, hdp, _⟩ := h.edge v hv hk hvs
   have := (h.pos p hp hkp).1; omega
 | m + 1, v, hv, hk, hm => by
  by_cases hvs : v = s
  ·exact ⟨[], by simp, hvs⟩
  ·obtain ⟨p, hp, hkp, hdp, hE⟩ := h.edge v hv hk hvs
   obtain ⟨ks, hl, hP⟩ := path_of h m p hp hkp (by omega)
   exact ⟨v :: ks, by simp; omega, rfl, hvs, hv, p, hp, hdp, hE, hP⟩
theorem Path.chain {rk : Nat → Int} {l : List Arc} {on : List Int} {n s : Nat} {sts : List Step} (hlen : sts.length = n) (hol : on.length = l.length) : ∀ {ks : List Nat} {v : Nat}, Path rk l on n s sts ks v → Chain sts s on.length ks v
 | [], _, h => h
 | x :: xs, v, ⟨h1, h2, h3, p, hp, hdp, hE, hP⟩ => by
  obtain ⟨e1, ai, e2, e3, e4, _⟩ := hE
  exact ⟨h1, h2, by omega, p, ai, e1, e2, by omega, Path.chain hlen hol hP⟩
/-- all nodes of a path lie at most as deep as its first -/
theorem Path.deep {rk : Nat → Int} {l : List Arc} {on : List Int} {n s : Nat} {sts : List Step} : ∀ {ks : List Nat} {v : Nat}, Path rk l on n s sts ks v → ∀ x ∈ ks, rk x ≤ rk v
 | [], _, _, x, hx => by cases hx
 | y :: xs, v, ⟨h1, _, _, p, _, hdp, _, hP⟩, x, hx => by
  rcases List.mem_cons.1 hx with rfl | hx
  ·rw [h1]; exact Int.le_refl _
  ·have := Path.deep hP x hx; omega
theorem Path.edge {rk : Nat → Int} {l : List Arc} {on : List Int} {n s : Nat} {sts : List Step} : ∀ {ks : List Nat} {v : Nat}, Path rk l on n s sts ks v → ∀ x ∈ ks, ∃ p, rk p < rk x ∧ Edge l on (sts.getD x default) p x
 | [], _, _, x, hx => by cases hx
 | y :: xs, v, ⟨h1, _, _, p, _, hdp, hE, hP⟩, x, hx => by
  rcases List.mem_cons.1 hx with rfl | hx
  ·subst h1; exact ⟨p, hdp, hE⟩
  ·exact Path.edge hP x hx
/-- two nodes of different depth are not reached over one arc -/
theorem edge_apart {rk : Nat → Int} {l : List Arc} {on : List Int} {sts : List Step} {x y px py : Nat} (hx : Edge l on (sts.getD x default) px x) (hy : Edge l on (sts.getD y default) py y) (dx : rk px < rk x) (dy : rk py < rk y)
  (hlt : rk x < rk y) : (sts.getD x default).arc ≠ (sts.getD y default).arc := by
 obtain ⟨_, ax, ex, hx1, hx2, fx, bx⟩ := hx
 obtain ⟨_, ay, ey, hy1, hy2, fy, by_⟩ := hy
 intro he
 rw [ex, ey] at he
 have he : ax = ay := by omega
 subst he
 cases h1 : (sts.getD x default).fwd <;> cases h2 : (sts.getD y default).fwd
 ·have g1 := bx h1; have g2 := by_ h2
  have : x = y := by omega
  subst this; omega
 ·have g1 := bx h1; have g2 := fy h2
  have e1 : x = py := by omega
  have e2 : px = y := by omega
  subst e1 e2; omega
 ·have g1 := fx h1; have g2 := by_ h2
  have e1 : x = py := by omega
  have e2 : px = y := by omega
  subst e1 e2; omega
 ·have g1 := fx h1; have g2 := fy h2
  have : x = y := by omega
  subst this; omega
theorem minI_le (a b : Int) : minI a b ≤ a ∧ minI a b ≤ b ∧ (0 < a → 0 < b → 0 < minI a b) := by unfold minI; split <;> omega
theorem pushMin_spec (sts : List Step) : ∀ (ks : List Nat) (m : Int), 0 < m → (∀ x ∈ ks, 0 < (sts.getD x default).room) → 0 < pushMin sts ks m ∧ pushMin sts ks m ≤ m ∧ ∀ x ∈ ks, pushMin sts ks m ≤ (sts.getD x default).room
 | [], m, hm, _ => ⟨hm, Int.le_refl _, fun x hx => by cases hx⟩
 | k :: ks, m, hm, h => by
  have h1 := minI_le m (sts.getD k default).room
  obtain ⟨g1, g2, g3⟩ := pushMin_spec sts ks (minI m (sts.getD k default).room) (h1.2.2 hm (h k (List.mem_cons_self ..))) fun x hx => h x (List.mem_cons_of_mem _ hx)
  have e : pushMin sts (k :: ks) m = pushMin sts ks (minI m (sts.getD k default).room) := rfl
  rw [e]
  refine ⟨g1, by omega, fun x hx => ?_⟩
  rcases List.mem_cons.1 hx with rfl | hx
  ·omega
  ·exact g3 x hx
theorem Edge.room_pos {l : List Arc} {on : List Int} {x : Step} {p v : Nat} (h : Edge l on x p v) : 0 < x.room := by
 obtain ⟨_, ai, _, h1, h2, hf, hb⟩ := h
 cases hx : x.fwd with
 | true => have := hf hx; omega
 | false => have := hb hx; omega
theorem push_flow {rk : Nat → Int} {l : List Arc} {on : List Int} {n s : Nat} {sts : List Step} {M : Int} (hM : 0 ≤ M) (pot : Int → Int) : ∀ (ks : List Nat) (v : Nat) (on0 : List Int), Path rk l on n s sts ks v → (∀ x ∈ ks, M ≤ (sts.getD x default).room) → VFlow l on0 →
  (∀ x ∈ ks, on0.getD (sts.getD x default).arc.toNat 0 = on.getD (sts.getD x default).arc.toNat 0) →
  VFlow l (pushOn sts ks M on0) ∧ netOut pot l (pushOn sts ks M on0) = netOut pot l on0 + M * (pot s - pot v)
 | [], v, on0, hP, _, hv, _ => by
  have : v = s := hP
  subst this
  exact ⟨hv, by simp [pushOn]⟩
 | k :: ks, v, on0, ⟨h1, h2, h3, p, hp, hdp, hE, hP⟩, hr, hv, hag => by
  subst h1
  have hE0 := hE
  obtain ⟨e1, ai, e2, e3, e4, hf, hb⟩ := hE
  have hlen := hv.len
  have hai : ai < on0.length := by omega
  have hrv := hr v (List.mem_cons_self ..)
  have hagv := hag v (List.mem_cons_self ..)
  have hbd := hv.bd ai e3 hai
  rw [e2] at hagv
  simp only [Int.toNat_natCast, List.getD_eq_getElem?_getD, List.getElem?_eq_getElem hai, List.getElem?_eq_getElem e4, Option.getD_some] at hagv
  -- the new list
  obtain ⟨y, hy, hy0, hy1, hyn⟩ : ∃ y, push1 sts M on0 v = on0.set ai y ∧ 0 ≤ y ∧ y ≤ l[ai].cap ∧ (y - on0[ai]) * (pot l[ai].f - pot l[ai].t) = M * (pot p - pot v) := by
   have hg : on0.getD ai 0 = on0[ai] := by simp [hai]
   cases hx : (sts.getD v default).fwd with
   | true =>
    obtain ⟨g1, g2, g3, g4⟩ := hf hx
    refine ⟨on0[ai] + M, by simp only [push1, e2, Int.toNat_natCast, hx, if_true, hg], by omega, by omega, ?_⟩
    rw [g1, g2, show on0[ai] + M - on0[ai] = M by omega]
   | false =>
    obtain ⟨g1, g2, g3, g4⟩ := hb hx
    refine ⟨on0[ai] - M, by simp only [push1, e2, Int.toNat_natCast, hx, hg]; rfl, by omega, by omega, ?_⟩
    rw [g1, g2, show on0[ai] - M - on0[ai] = -M by omega, Int.neg_mul, ← Int.mul_neg, Int.neg_sub]
  have hv1 : VFlow l (push1 sts M on0 v) := by
   rw [hy]
   refine ⟨by simpa using hlen, fun i h h' => ?_⟩
   rw [List.getElem_set]
   split
   ·rename_i he; subst he; exact ⟨hy0, hy1⟩
   ·exact hv.bd i h (by simpa using h')
  have hag1 : ∀ x ∈ ks, (push1 sts M on0 v).getD (sts.getD x default).arc.toNat 0 = on.getD (sts.getD x default).arc.toNat 0 := by
   intro x hx
   rw [← hag x (List.mem_cons_of_mem _ hx), hy]
   obtain ⟨px, dpx, hEx⟩ := Path.edge hP x hx
   have hdx := Path.deep hP x hx
   have hne := edge_apart hEx hE0 dpx hdp (by omega)
   obtain ⟨_, ax, ex2, _⟩ := hEx
   rw [e2, ex2] at hne
   rw [ex2]
   have : ai ≠ ax := by omega
   simp [List.getElem?_set, this]
  obtain ⟨i1, i2⟩ := push_flow hM pot ks p (push1 sts M on0 v) hP (fun x hx => hr x (List.mem_cons_of_mem _ hx)) hv1 hag1
  have e : pushOn sts (v :: ks) M on0 = pushOn sts ks M (push1 sts M on0 v) := rfl
  rw [e]
  refine ⟨i1, ?_⟩
  rw [i2, hy, netOut_set pot l on0 ai y e3 hai, hyn, Int.mul_sub, Int.mul_sub, Int.mul_sub]
  omega
/-- a push towards t along a path makes a flow of a greater amount -/
theorem push_isFlow {rk : Nat → Int} {l : List Arc} {on : List Int} {n s t : Nat} {sts : List Step} {M amt : Int} (hM : 0 ≤ M) (hst : s ≠ t) {ks : List Nat} (hP : Path rk l on n s sts ks t) (hr : ∀ x ∈ ks, M ≤ (sts.getD x default).room) (hf : IsFlow n l s t on amt) :
  IsFlow n l s t (pushOn sts ks M on) (amt + M) := by
 have hv := (push_flow hM (fun _ => 0) ks t on hP hr hf.v fun _ _ => rfl).1
 have hpot := fun pot => (push_flow hM pot ks t on hP hr hf.v fun _ _ => rfl).2
 refine ⟨hv, fun u h0 h1 h2 h3 => ?_, ?_⟩
 ·rw [hpot, hf.cons u h0 h1 h2 h3]
  have e1 : ind u (s : Int) = 0 := if_neg (fun h => h2 h.symm)
  have e2 : ind u (t : Int) = 0 := if_neg (fun h => h3 h.symm)
  rw [e1, e2]; simp
 ·rw [hpot, hf.amt]
  have e1 : ind (s : Int) (s : Int) = 1 := if_pos rfl
  have e2 : ind (s : Int) (t : Int) = 0 := if_neg (by omega)
  rw [e1, e2]; omega
/-- where t is not reached, the flow is greatest -/
theorem reached_isMax {l : List Arc} {on : List Int} {n s t : Nat} {sts : List Step} {amt : Int} (hn : NodesOk n l) (hs : s < n) (h : Reached l on n s sts) (hf : IsFlow n l s t on amt) (ht : kn sts t = false) : IsMax n l s t amt := by
 refine ⟨⟨on, hf⟩, fun u => kn sts u.toNat, by simpa using h.src, by simpa using ht, ?_⟩
 rw [← netOut_eq_cut _ l on hf.v.len fun i hi hi2 => ?_]
 ·exact hf.set hn ⟨by omega, by omega⟩ (by simpa using h.src) (by simpa using ht)
 ·obtain ⟨c1, c2⟩ := h.clo i hi hi2
  have hb := hf.v.bd i hi hi2
  refine ⟨fun u1 u2 => ?_, fun u1 u2 => ?_⟩
  ·rcases Int.lt_or_eq_of_le hb.2 with hlt | he
   ·rw [c1 hlt u1] at u2; cases u2
   ·exact he
  ·rcases Int.lt_or_eq_of_le hb.1 with hlt | he
   ·rw [c2 hlt u2] at u1; cases u1
   ·exact he.symm
theorem zero_isFlow {n : Nat} {l : List Arc} {s t : Int} (hc : ∀ a ∈ l, 0 ≤ a.cap) : IsFlow n l s t (List.replicate l.length 0) 0 := by
 have hz : ∀ (p : Int → Int) (l : List Arc), netOut p l (List.replicate l.length 0) = 0 := by
  intro p l
  induction l with
  | nil => rfl
  | cons a l ih => simp [List.replicate_succ, netOut, ih]
 exact ⟨⟨by simp, fun i h h2 => by simp; exact hc _ (List.getElem_mem h)⟩, fun u _ _ _ _ => hz _ l, hz _ l⟩
end Go.Proofs.Ytgjfjbphngamgaa.Flo

/-
 Walks: greatest, Most.
-/
set_option linter.all false
namespace Go.Proofs.Ytgjfjbphngamgaa.Flo
open Go Go.W Go.RowKit
/-- a network as Check lets it pass -/
structure NetOk (n : Nat) (l : List Arc) : Prop where
 n1 : 1 ≤ n
 n2 : n ≤ 64
 len : l.length ≤ 512
 nodes : NodesOk n l
 caps : ∀ a ∈ l, (0 ≤ a.cap ∧ a.cap ≤ 65536) ∧ (0 ≤ a.cost ∧ a.cost ≤ 65536)
theorem amt_le {n : Nat} {l : List Arc} {s t : Int} {on : List Int} {amt : Int} (hN : NetOk n l) (hs : 0 ≤ s ∧ s < n) (hst : s ≠ t) (hf : IsFlow n l s t on amt) : amt ≤ 65536 * l.length := by
 have h := weak_dual hf hN.nodes hs (S := fun u => decide (u = s)) (by simp) (by simp; omega)
 have := cutCap_le (fun u => decide (u = s)) l fun a ha => (hN.caps a ha).1
 omega
set_option maxHeartbeats 1000000 in
theorem flowGreatest (n s t : Nat) (A : Option Addr) (l : List Arc) (cap : Nat) (w0 : World) (hN : NetOk n l) (hs : s < n) (ht : t < n) (hst : s ≠ t) (hz : ArcsAt w0 A l) :
  Calls Try.prog 76 #[.agg #[I n, .slice A l.length cap], I s, I t] w0
   fun e w' => ∃ (gon : Nat) (on : List Int) (amt : Int), e = .returned (.tuple #[.agg #[I n, .slice A l.length cap, .slice (some ⟨gon, 0, none⟩) l.length l.length], I amt]) ∧ on.length = l.length ∧ IsFlow n l s t on amt ∧ IsMax n l s t amt ∧ SH w0 [] w' [⟨gon, 3, on.map I⟩] := by
 have H := SH.refl w0
 have hlen := hN.len
 have hn2 := hN.n2
 refine Calls.ofWPc Try.func76 rfl Try.results76 Try.ntmps76 rfl <| Y.qr <| Y.bx (cA rfl) H ?_
 clear H; intro g3 w H
 refine Y.al H rfl rfl ?_
 clear H; intro g6 w H
 refine Y.v (Ev.asI rfl) <| Y.z <| Y.q ?_
 refine WP.rheldC [8, 11, 12, 13, 14, 15, 16] (fun u w' => ∃ g8 g15 : Nat, u 8 = .pointer (some ⟨g8, 0, none⟩) ∧ SH w0 [] w' [⟨g8, 111, [I n, .slice A l.length cap, .slice (some ⟨g15, 0, none⟩) l.length l.length]⟩, ⟨g6, 111, [I 0, .slice none 0 0, .slice none 0 0]⟩, ⟨g15, 3, (List.replicate l.length 0).map I⟩]) mixed H ?_ ?_
 ·clear H; intro w hbw1 H
  refine Y.t 0 H rfl rfl (fun w H => Y.o H 1 rfl rfl) <| Y.t 1 H rfl rfl (fun w H => Y.f rfl rfl) <| Y.t 2 H rfl rfl (fun w H => Y.l H 1 rfl rfl rfl) <| Y.t 3 H rfl rfl (fun w H => Y.n rfl) ?_
  refine Y.A [4, 6] rfl ⟨⟨_, rfl, ?_⟩, ⟨_, rfl, ?_⟩, trivial⟩
  ·refine OPS.makeSlice rfl rfl rfl rfl (sl_run rfl) rfl rfl rfl (by omega) (by omega) H ?_
   clear H; intro g15 w H
   refine Y.z <| ⟨(H.drop (List.sublist_cons_self _ _)), ?_⟩
   refine Y.t 5 (H.drop (List.sublist_cons_self _ _)) rfl rfl (fun w H => Ev.build (bld_111_0_1 rfl rfl)) ?_
   refine Y.A [6] rfl ⟨⟨_, rfl, ?_⟩, trivial⟩
   refine Y.al H rfl rfl ?_
   clear H; intro g8 w H
   refine Y.z <| ⟨(H.drop ((List.sublist_cons_self _ _).trans (List.sublist_cons_self _ _))), ?_⟩
   refine Y.A [7] rfl ⟨⟨_, rfl, ?_⟩, trivial⟩
   refine Y.st 0 H rfl (cA rfl) rfl ?_
   clear H; intro w H; try simp only [List.set_cons_zero, List.set_cons_succ, putL, Nat.zero_add] at H
   refine Y.z <| ⟨(H.drop ((List.sublist_cons_self _ _).trans (List.sublist_cons_self _ _))), ?_⟩
   refine OPH.done (by kernel_rfl) ?_
   refine ⟨(by repeat (first | exact Agree.refl _ _ | exact Agree.mix _ _ _ | refine Agree.upd rfl ?_ | refine Agree.mix2 rfl ?_)), g8, g15, rfl, ?_⟩; rw [← mkL_ones]; exact H.reidx [0, 2, 1] (by decide) rfl
  ·refine Y.al H rfl rfl ?_
   clear H; intro g8 w H
   refine Y.z <| ⟨(H.drop (List.sublist_cons_self _ _)), ?_⟩
   refine Y.A [4] rfl ⟨⟨_, rfl, ?_⟩, trivial⟩
   refine OPS.makeSlice rfl rfl rfl rfl (sl_run rfl) rfl rfl rfl (by omega) (by omega) H ?_
   clear H; intro g15 w H
   refine Y.z <| ⟨(H.drop ((List.sublist_cons_self _ _).trans (List.sublist_cons_self _ _))), ?_⟩
   refine Y.t 5 (H.drop ((List.sublist_cons_self _ _).trans (List.sublist_cons_self _ _))) rfl rfl (fun w H => Ev.build (bld_111_0_1 rfl rfl)) ?_
   refine Y.A [7] rfl ⟨⟨_, rfl, ?_⟩, trivial⟩
   refine Y.st 1 H rfl (cA rfl) rfl ?_
   clear H; intro w H; try simp only [List.set_cons_zero, List.set_cons_succ, putL, Nat.zero_add] at H
   refine Y.z <| ⟨(H.drop ((List.sublist_cons_self _ _).trans (List.sublist_cons_self _ _))), ?_⟩
   refine OPH.done (by kernel_rfl) ?_
   refine ⟨(by repeat (first | exact Agree.refl _ _ | exact Agree.mix _ _ _ | refine Agree.upd rfl ?_ | refine Agree.mix2 rfl ?_)), g8, g15, rfl, ?_⟩; rw [← mkL_ones]; exact H.reidx [1, 2, 0] (by decide) rfl
 clear H
 rintro u w ⟨g8, g15, h8, H⟩
 refine WP.know (t := 8) h8 <| Y.qr <| Y.v (Ev.asI rfl) <| Y.z <| WP.block <| WP.loop [7, 9, 10, 17, 18, 19, 20, 21, 22, 23, 24, 25, 26, 27, 28, 29, 30, 31, 32, 33, 34] (fun k e w' => ∃ (on : List Int) (amt : Int), on.length = l.length ∧ e 9 = I amt ∧ 0 ≤ amt ∧ IsFlow n l s t on amt ∧ amt + k = 65536 * l.length ∧ SH w0 [] w' [⟨g8, 111, [I n, .slice A l.length cap, .slice (some ⟨g15, 0, none⟩) l.length l.length]⟩, ⟨g6, 111, [I 0, .slice none 0 0, .slice none 0 0]⟩, ⟨g15, 3, on.map I⟩]) (65536 * l.length) (⟨List.replicate l.length 0, 0, by simp, rfl, by omega, zero_isFlow fun a ha => (hN.caps a ha).1.1, by simp, H⟩) ?_
 clear H
 rintro k u2 w ⟨on, amt, hol, h9, ham, hfl, hk, H⟩
 refine WP.know (t := 9) h9 ?_
 have hamt := amt_le hN ⟨by omega, by omega⟩ (by omega) hfl
 have hob : ∀ i (h : i < on.length), 0 ≤ on[i] ∧ on[i] ≤ 65536 := fun i h => by
  have h1 := hfl.v.bd i (by omega) h
  have h2 := (hN.caps l[i] (List.getElem_mem (by omega))).1
  omega
 have hsp := reachFin_spec (s := s) (on := on) hN.nodes hol hs
 refine WP.block <| Y.qr <| Y.v (Y.o H 0 rfl rfl) <| Y.v (Y.m rfl) ?_
 have hfr := flowReach n s A (some ⟨g15, 0, none⟩) l on cap l.length w hs hn2 (hz.sh H) (onesOwn H 2 rfl) hol (by omega) (fun i h => by have := hN.caps l[i] (List.getElem_mem h); omega) (fun i h => by have := hob i h; omega) (fun i h => hN.nodes l[i] (List.getElem_mem h))
 rw [hol] at hfr
 refine OPS.call (d := some 19) rfl rfl rfl (EvC.func (fun_run rfl)) (hfr) ?_
 rintro _ w ⟨ga, rfl, Hc⟩
 refine ⟨_, rfl, ?_⟩
 replace H := SH.call (L1 := [⟨g8, 111, [I n, .slice A l.length cap, .slice (some ⟨g15, 0, none⟩) l.length l.length]⟩, ⟨g6, 111, [I 0, .slice none 0 0, .slice none 0 0]⟩, ⟨g15, 3, on.map I⟩]) (Lv := []) (by simpa using H) Hc
 clear Hc hfr
 generalize hst2 : reachFin l on n s = sts at H hsp
 replace H := H.reidx (L' := [⟨g8, 111, [I n, .slice A l.length cap, .slice (some ⟨g15, 0, none⟩) l.length l.length]⟩, ⟨g6, 111, [I 0, .slice none 0 0, .slice none 0 0]⟩, ⟨ga, 116, sts.flatMap stepCells⟩, ⟨g15, 3, on.map I⟩]) [0, 1, 3, 2] (by decide) rfl
 have hrow := rowsOwn' stepCells_len H 2 rfl
 have hsl := hsp.len
 refine Y.v (Ev.asS rfl) <| Y.z <| Y.q <| Y.q ?_
 obtain ⟨_, _, e1, b0, b1, b2, b3, b4, b5, _⟩ := hrow t (by omega)
 cases e1
 have hkt : kn sts t = sts[t].known := by unfold kn; simp [hsl, ht]
 refine Y.r <| Y.v (Ev.mvS rfl) <| Y.v (Y.m rfl) <| Y.v (Y.X rfl rfl rfl rfl rfl) <| Y.v (Y.f rfl rfl) <| Y.v (Y.c (by assumption) rfl) ?_
 refine Y.v (Ev.not rfl) <| Y.z ?_
 refine WP.cond rfl (fun hc4 => ?_) (fun hc4 => ?_)
 ·refine Y.qr <| Y.v (Y.o H 0 rfl rfl) <| Y.v (Y.m rfl) <| Y.st 1 H rfl (cA rfl) rfl ?_
  clear H; intro w H; try simp only [List.set_cons_zero, List.set_cons_succ, putL, Nat.zero_add] at H
  refine Y.v (Ev.asI rfl) <| Y.z ?_
  refine WP.ret ⟨[_, _], ⟨(by exact resCellA 1 H rfl (agg_run rfl) (size_run rfl) (by rfl) rfl), rfl, trivial⟩, ?_⟩
  have hkf : kn sts t = false := by rw [hkt]; simpa using hc4
  exact ⟨g15, on, amt, rfl, hol, hfl, reached_isMax hN.nodes hs hsp hfl hkf, H.reidx [3] (by decide) rfl⟩
 have hkf : kn sts t = true := by rw [hkt]; simpa using hc4
 obtain ⟨ks, hkl, hP⟩ := path_of hsp.tree n t ht hkf (hsp.pos t ht hkf).2
 obtain ⟨m1, m2, m3⟩ := pushMin_spec sts ks 65536 (by omega) fun x hx => by obtain ⟨p, _, hE⟩ := hP.edge x hx; exact hE.room_pos
 have hfl2 := push_isFlow (by omega) hst hP m3 hfl
 have hamt2 := amt_le hN ⟨by omega, by omega⟩ (by omega) hfl2
 have hga : ga ≠ g15 := by have := H.nodup; simp at this; exact this.2.2
 refine Y.k <| Y.r <| Y.v (Y.m rfl) <| Y.v (Y.o H 0 rfl rfl) <| Y.v (Ev.mvS rfl) <| Y.v (Y.m rfl) <| Y.v (Y.m rfl) ?_
 have hpu := flowPush g15 A (some ⟨ga, 0, none⟩) l.length cap l.length n n s t 65536 s t rfl rfl sts on ks w hrow (fun _ b o he => by cases he; simpa using hga) (hP.chain hsl hol) (by omega) (by omega) (fun i h => by have := hob i h; omega) (H.restart (L := [⟨g8, 111, [I n, .slice A l.length cap, .slice (some ⟨g15, 0, none⟩) l.length l.length]⟩, ⟨g6, 111, [I 0, .slice none 0 0, .slice none 0 0]⟩, ⟨ga, 116, sts.flatMap stepCells⟩, ⟨g15, 3, on.map I⟩]) ((((List.Sublist.refl _).cons _).cons _).cons _))
 rw [hol, hsl] at hpu
 refine OPS.call (d := some 33) rfl rfl rfl (EvC.func (fun_run rfl)) (hpu) ?_
 rintro _ w ⟨rfl, Hc⟩
 refine ⟨_, rfl, ?_⟩
 replace H := SH.call (L1 := [⟨g8, 111, [I n, .slice A l.length cap, .slice (some ⟨g15, 0, none⟩) l.length l.length]⟩, ⟨g6, 111, [I 0, .slice none 0 0, .slice none 0 0]⟩, ⟨ga, 116, sts.flatMap stepCells⟩]) (Lv := [⟨g15, 3, on.map I⟩]) H Hc
 clear Hc hpu
 refine Y.v (Y.p rfl rfl) <| Y.v (Ev.asI rfl) <| Y.z ?_
 exact ⟨(by repeat (first | exact Agree.refl _ _ | exact Agree.mix _ _ _ | refine Agree.upd rfl ?_ | refine Agree.mix2 rfl ?_)), k - (pushMin sts ks 65536).toNat, by omega, pushOn sts ks (pushMin sts ks 65536) on, amt + pushMin sts ks 65536, by rw [pushOn_length]; exact hol, rfl, by omega, hfl2, by omega, H.reidx [0, 1, 3] (by decide) rfl⟩
end Go.Proofs.Ytgjfjbphngamgaa.Flo

/-
 Walk: Most.
-/
set_option linter.all false
namespace Go.Proofs.Ytgjfjbphngamgaa.Flo
open Go Go.W Go.RowKit
theorem arcsErr_ok {n : Int} : ∀ {l : List Arc}, arcsErr n l = 0 → ∀ a ∈ l, arcBad n a = false ∧ arcRange a = false
 | [], _, a, ha => by cases ha
 | b :: l, h, a, ha => by
  rw [arcsErr] at h
  split at h
  ·cases h
  ·rename_i h1
   split at h
   ·cases h
   ·rename_i h2
    rcases List.mem_cons.1 ha with rfl | ha
    ·exact ⟨by simpa using h1, by simpa using h2⟩
    ·exact arcsErr_ok h a ha
theorem netOk_of {n : Int} {l : List Arc} (h : netErr n l = 0) : ∃ m : Nat, n = m ∧ NetOk m l := by
 unfold netErr at h
 split at h
 ·cases h
 ·rename_i h1
  split at h
  ·cases h
  ·rename_i h2
   have h1 : 1 ≤ n ∧ n ≤ 64 := by simp at h1; omega
   obtain ⟨m, rfl⟩ := Int.eq_ofNat_of_zero_le (show 0 ≤ n by omega)
   refine ⟨m, rfl, by omega, by omega, by simp at h2; omega, fun a ha => ?_, fun a ha => ?_⟩
   ·have := (arcsErr_ok h a ha).1
    simp [arcBad, isNode] at this; omega
   ·have := (arcsErr_ok h a ha).2
    simp [arcRange] at this; omega
structure EndsOk (n f t : Int) (l : List Arc) (m s d : Nat) : Prop where
 hn : n = m
 hf : f = s
 ht : t = d
 net : NetOk m l
 s1 : s < m
 d1 : d < m
 ne : s ≠ d
theorem endsOk_of {n f t : Int} {l : List Arc} (h : endsErr n l f t = 0) : ∃ m s d : Nat, EndsOk n f t l m s d := by
 unfold endsErr at h
 split at h
 ·rename_i h1; exact absurd h h1
 ·rename_i h1
  split at h
  ·cases h
  ·rename_i h2
   split at h
   ·cases h
   ·rename_i h3
    obtain ⟨m, rfl, hN⟩ := netOk_of (by simpa using h1)
    simp [isNode] at h2
    obtain ⟨s, rfl⟩ := Int.eq_ofNat_of_zero_le (show 0 ≤ f by omega)
    obtain ⟨d, rfl⟩ := Int.eq_ofNat_of_zero_le (show 0 ≤ t by omega)
    exact ⟨m, s, d, rfl, rfl, rfl, hN, by omega, by omega, by omega⟩
/-- what Most returns -/
def MostRet (n f t : Int) (l : List Arc) (r e : Int) : Prop := e = endsErr n l f t ∧ (e ≠ 0 → r = 0) ∧ (e = 0 → ∃ m : Nat, n = m ∧ IsMax m l f t r)
theorem flowMost (n f t : Int) (A : Option Addr) (l : List Arc) (cap : Nat) (w0 : World) (hz : ArcsAt w0 A l) :
  Calls Try.prog 57 #[.agg #[I n, .slice A l.length cap], I f, I t] w0 fun e w' => ∃ r er : Int, e = .returned (.tuple #[I r, I er]) ∧ MostRet n f t l r er ∧ Below w0.heap.size w0 w' := by
 have H := SH.refl w0
 refine Calls.ofWP Try.func57 rfl Try.results57 Try.ntmps57 rfl <| Y.qr <| Y.bx (cA rfl) H ?_
 clear H; intro g3 w H
 refine Y.v (Ev.asI rfl) <| Y.v (Ev.asI rfl) <| Y.z <| Y.q <| Y.qr <| Y.v (Y.o H 0 rfl rfl) <| Y.v (Y.m rfl) <| Y.v (Y.m rfl) <| OPS.call (d := some 14) rfl rfl rfl (EvC.func (fun_run rfl)) (flowEnds n f t A l cap w (hz.sh H)) ?_
 rintro _ w ⟨rfl, hb⟩
 refine ⟨_, rfl, ?_⟩
 replace H := H.toBelow hb; clear hb
 refine Y.v (Ev.asI rfl) <| Y.z <| Y.qr <| Y.v (Y.m rfl) <| Y.v (Ev.neq rfl rfl) <| Y.z ?_
 refine WP.cond rfl (fun hc2 => ?_) (fun hc2 => ?_)
 ·refine Y.qr <| Y.v (Y.m rfl) <| Y.v (Ev.asI rfl) <| Y.v (Ev.asI rfl) <| Y.z ?_
  refine WP.ret ⟨_, rfl, ?_⟩
  have h : endsErr n l f t ≠ 0 := by simpa using hc2
  exact ⟨0, _, rfl, ⟨rfl, fun _ => rfl, fun h0 => absurd h0 h⟩, H.below⟩
 have h0 : endsErr n l f t = 0 := by simpa using hc2
 obtain ⟨m, s, d, hE⟩ := endsOk_of h0
 have e1 := hE.hn
 have e2 := hE.hf
 have e3 := hE.ht
 subst e1 e2 e3
 refine Y.k <| Y.qr <| Y.v (Y.o H 0 rfl rfl) <| Y.v (Y.m rfl) <| Y.v (Y.m rfl) <| OPS.call (d := some 22) rfl rfl rfl (EvC.func (fun_run rfl)) (flowGreatest m s d A l cap w hE.net hE.s1 hE.d1 hE.ne (hz.sh H)) ?_
 rintro _ w ⟨gon, on, amt, rfl, hol, _, hmax, Hc⟩
 refine ⟨_, rfl, ?_⟩
 replace H := SH.call (Lv := []) (by simpa using H) Hc
 clear Hc
 refine Y.v (Ev.mvT rfl) <| Y.v (Ev.extract rfl rfl) <| Y.v (Ev.extract rfl rfl) <| Y.al H rfl rfl ?_
 clear H; intro g9 w H
 refine Y.st 0 H rfl (cA rfl) rfl ?_
 clear H; intro w H; try simp only [List.set_cons_zero, List.set_cons_succ, putL, Nat.zero_add] at H
 refine Y.v (Ev.asI rfl) <| Y.z <| Y.qr <| Y.v (Y.m rfl) <| Y.v (Ev.asI rfl) <| Y.v (Ev.asI rfl) <| Y.z ?_
 refine WP.ret ⟨_, rfl, ?_⟩
 exact ⟨amt, 0, rfl, ⟨h0.symm, fun h => absurd rfl h, fun _ => ⟨m, rfl, hmax⟩⟩, H.below⟩
end Go.Proofs.Ytgjfjbphngamgaa.Flo
