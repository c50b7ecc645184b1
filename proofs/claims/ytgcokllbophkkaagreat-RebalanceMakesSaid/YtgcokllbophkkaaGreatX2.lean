/-
  Walks: the reference's lists, next and greedy.
-/
import Derived.Test.YtgcokllbophkkaaGreatN3
import Derived.Test.YtgcokllbophkkaaGreatRM3
import Derived.Test.YtgcokllbophkkaaGreatT18
import Derived.Test.YtgcokllbophkkaaGreatNest
import Derived.Test.YtgcokllbophkkaaGreatB4
import Derived.Test.YtgcokllbophkkaaGreatPlus
import Derived.Test.YtgcokllbophkkaaGreatB1
set_option linter.all false
set_option maxHeartbeats 4000000
namespace Go.Proofs.YtgcokllbophkkaaGreat
open Go Go.W Go.RowKit
theorem r45Has (A : Option Addr) (l : List Int) (cap : Nat) (x : Int) (w0 : World) (hz : IntsAt w0 A l) (hl : l.length ≤ 1000) :
    Calls Tryz.prog 60 #[.slice A l.length cap, I x] w0 fun e w' => e = .returned (.bool (decide (x ∈ l))) ∧ Below w0.heap.size w0 w' := by
  have H := SH.refl w0
  refine Calls.ofWP Tryz.func60 rfl Tryz.results60 Tryz.ntmps60 rfl <| Y.qr <| Y.v (Ev.asB rfl) <| Y.z <| Y.q <| Y.qr <| Y.b rfl <| Y.z <| WP.block <| WP.loop [4, 5, 6, 7, 8, 9, 10, 11, 12, 13, 14, 15, 16, 17] (fun k e w' => ∃ j : Nat, j + k = l.length ∧ e 5 = I j ∧ x ∉ l.take j ∧ SH w0 [] w' []) (l.length) (⟨0, by omega, rfl, by simp, H⟩) ?_
  clear H
  rintro k u w ⟨j, hk, h5, hni, H⟩
  refine WP.know (t := 5) h5 <| Y.q <| Y.qr <| Y.a rfl <| Y.v (Ev.mvS rfl) <| Y.v (Y.n rfl) <| Y.v (Ev.lss rfl rfl) <| Y.z ?_
  refine WP.cond rfl (fun hc2 => ?_) (fun hc2 => ?_)
  · have hlt : j < l.length := by simpa using hc2
    obtain ⟨b, o, rfl, hx⟩ := hz j hlt
    have htk := List.take_succ_eq_append_getElem hlt
    refine Y.k <| Y.q <| WP.block <| Y.qr <| Y.v (Ev.mvS rfl) <| Y.a rfl <| Y.v (Y.x rfl rfl rfl rfl) <| Y.v (Y.c (H.ld0 (by assumption)) rfl) ?_
    refine Y.a rfl <| Y.v (Ev.eql rfl rfl) <| Y.z ?_
    refine WP.cond rfl (fun hc4 => ?_) (fun hc4 => ?_)
    · refine Y.qr <| Y.v (Ev.asB rfl) <| Y.z ?_
      refine WP.ret ⟨_, rfl, ?_⟩
      have he : l[j] = x := by simpa using hc4
      have hm : x ∈ l := by rw [← he]; exact List.getElem_mem hlt
      exact ⟨by rw [decide_eq_true hm]; rfl, H.below⟩
    have he : l[j] ≠ x := by simpa using hc4
    refine Y.k <| Y.r <| Y.a rfl <| Y.v (Y.p rfl rfl) <| Y.b rfl <| Y.z ?_
    exact ⟨Y.ag, k - 1, by omega, j + 1, by omega, rfl, (by rw [htk, List.mem_append, List.mem_singleton]; rintro (h | h); exact hni h; exact he h.symm), H⟩
  refine WP.exit <| XB.hit <| Y.qr <| Y.v (Ev.asB rfl) <| Y.z ?_
  refine WP.ret ⟨_, rfl, ?_⟩
  have hj : j = l.length := by simp at hc2; omega
  rw [hj, List.take_length] at hni
  exact ⟨by rw [decide_eq_false hni]; rfl, H.below⟩
def withoutL (l sm : List Int) : List Int := l.filter fun i => !decide (i ∈ sm)
theorem withoutL_snoc {l sm : List Int} {i : Int} : withoutL (l ++ [i]) sm = withoutL l sm ++ if i ∈ sm then [] else [i] := by
  unfold withoutL; rw [List.filter_append]
  by_cases h : i ∈ sm <;> simp [h]
theorem withoutL_len (l sm : List Int) : (withoutL l sm).length ≤ l.length := List.length_filter_le _ _
theorem r45Without (A B : Option Addr) (l sm : List Int) (ca cb : Nat) (w0 : World) (hz : IntsAt w0 A l) (hs : IntsAt w0 B sm) (hl : l.length ≤ 1000) (hsl : sm.length ≤ 1000) :
    Calls Tryz.prog 34 #[.slice A l.length ca, .slice B sm.length cb] w0 fun e w' => ∃ (V : Option Addr) (c : Nat) (L : List Blk), e = .returned (.slice V (withoutL l sm).length c) ∧ OwnS V c (withoutL l sm).length ((withoutL l sm).map I) 3 1 L ∧ SH w0 [] w' L := by
  have H := SH.refl w0
  refine Calls.ofWP Tryz.func34 rfl Tryz.results34 Tryz.ntmps34 rfl <| Y.qr <| Y.v (Ev.asS rfl) <| Y.z <| Y.qr <| OPS.buildSlice rfl rfl rfl rfl (bsl_32_0_ (e := fun _ => .int .i64 0)) H ?_
  clear H; intro g7 w H
  refine Y.v (Ev.asS rfl) <| Y.z <| Y.q <| Y.qr <| Y.b rfl <| Y.z <| WP.block <| WP.loop [5, 6, 8, 9, 10, 11, 12, 13, 14, 15, 16, 17, 18, 19, 20, 21, 22, 23, 24, 25, 26, 27] (fun k e w' => ∃ (j : Nat) (V : Option Addr) (c : Nat) (L : List Blk), j + k = l.length ∧ e 6 = I j ∧ e 5 = .slice V (withoutL (l.take j) sm).length c ∧ OwnS V c (withoutL (l.take j) sm).length ((withoutL (l.take j) sm).map I) 3 1 L ∧ SH w0 [] w' L) (l.length) (⟨0, .some ⟨g7, 0, none⟩, 0, [⟨g7, 3, []⟩], by omega, rfl, rfl, OwnS.mt, H⟩) ?_
  clear H
  rintro k u w ⟨j, V, c, L, hk, h6, h5, hOV, H⟩
  refine WP.know (t := 6) h6 (WP.know (t := 5) h5 ?_)
  refine Y.q <| Y.qr <| Y.a rfl <| Y.v (Ev.mvS rfl) <| Y.v (Y.n rfl) <| Y.v (Ev.lss rfl rfl) <| Y.z ?_
  refine WP.cond rfl (fun hc3 => ?_) (fun hc3 => ?_)
  · have hlt : j < l.length := by simpa using hc3
    obtain ⟨b, o, rfl, hx⟩ := hz j hlt
    have htk : withoutL (l.take (j + 1)) sm = withoutL (l.take j) sm ++ if l[j] ∈ sm then [] else [l[j]] := by
      rw [List.take_succ_eq_append_getElem hlt, withoutL_snoc]
    have hwl := withoutL_len (l.take j) sm
    have htl : (l.take j).length = j := by rw [List.length_take]; omega
    refine Y.k <| Y.q <| WP.block <| Y.qr <| Y.v (Ev.mvS rfl) <| Y.v (Ev.mvS rfl) <| Y.a rfl <| Y.v (Y.x rfl rfl rfl rfl) <| Y.v (Y.c (H.ld0 (by assumption)) rfl) ?_
    refine OPS.call (d := some 19) rfl rfl rfl (EvC.func (fun_run rfl)) (r45Has B sm cb l[j] w (hs.sh H) hsl) ?_
    rintro _ w ⟨rfl, hb⟩
    refine ⟨_, rfl, ?_⟩
    replace H := H.toBelow hb; clear hb
    refine Y.v (Ev.not rfl) <| Y.z ?_
    refine WP.cond rfl (fun hc5 => ?_) (fun hc5 => ?_)
    · have hno : l[j] ∉ sm := by simpa using hc5
      rw [if_neg hno] at htk
      refine Y.r <| Y.v (Ev.mvS rfl) <| Y.v (Ev.mvS rfl) <| Y.a rfl <| Y.v (Y.x rfl rfl rfl rfl) <| Y.v (Y.c (H.ld0 (by assumption)) rfl) ?_
      refine OPS.buildSlice rfl rfl rfl rfl (bsl_32_1_0 rfl) H ?_
      clear H; intro g26 w H
      refine OPS.append (m := 1) (news := [I l[j]]) (R := [⟨g26, 3, [I l[j]]⟩]) rfl rfl rfl rfl rfl (sl_run rfl) rfl rfl hOV rfl (src_own H 0 rfl) rfl (by omega) (by unfold maxLen; omega) H (List.Perm.refl _) ?_
      clear H hOV; intro V c L w hOV H
      replace H := H.drop (L' := L) Sb.out
      have hrd : ∃ V' c' L', .slice V ((withoutL (l.take j) sm).length + 1) c = Value.slice V' (withoutL (l.take (j + 1)) sm).length c' ∧ OwnS V' c' (withoutL (l.take (j + 1)) sm).length ((withoutL (l.take (j + 1)) sm).map I) 3 1 L' ∧ SH w0 [] w L' := by
        rw [htk, List.length_append, List.map_append]
        exact ⟨V, c, L, rfl, hOV, H⟩
      refine Y.v (Ev.asS rfl) <| Y.z <| Y.r <| Y.a rfl <| Y.v (Y.p rfl rfl) <| Y.b rfl <| Y.z ?_
      obtain ⟨V', c', L', he, hO', H'⟩ := hrd
      exact ⟨Y.ag, k - 1, by omega, j + 1, V', c', L', by omega, rfl, he, hO', H'⟩
    have hno : l[j] ∈ sm := by simpa using hc5
    rw [if_pos hno, List.append_nil] at htk
    have hrd : ∃ V' c' L', .slice V (withoutL (l.take j) sm).length c = Value.slice V' (withoutL (l.take (j + 1)) sm).length c' ∧ OwnS V' c' (withoutL (l.take (j + 1)) sm).length ((withoutL (l.take (j + 1)) sm).map I) 3 1 L' ∧ SH w0 [] w L' := by
      rw [htk]
      exact ⟨V, c, L, rfl, hOV, H⟩
    refine Y.k <| Y.r <| Y.a rfl <| Y.v (Y.p rfl rfl) <| Y.b rfl <| Y.z ?_
    obtain ⟨V', c', L', he, hO', H'⟩ := hrd
    exact ⟨Y.ag, k - 1, by omega, j + 1, V', c', L', by omega, rfl, he, hO', H'⟩
  refine WP.exit <| XB.hit <| Y.qr <| Y.v (Ev.mvS rfl) <| Y.v (Ev.asS rfl) <| Y.z ?_
  refine WP.ret ⟨_, rfl, ?_⟩
  have hj : j = l.length := by simp at hc3; omega
  rw [hj, List.take_length] at hOV
  rw [hj, List.take_length]
  exact ⟨V, c, L, rfl, hOV, H⟩
theorem r45Next (m q : Nat) (hd : Int) (A B C F X : Option Addr) (l : List Edg) (ts : List Truck) (ns : List Need) (left os : List Int) (ca cb cc cf cx : Nat) (w0 : World) (hN : NightAt w0 A B C l ts ns cc) (hF : IntsAt w0 F left) (hX : IntsAt w0 X os)
    (hK : NightOk m l ts ns hd) (hq : q < ts.length) (hin : ∀ i ∈ left, 0 ≤ i ∧ i < (ns.length : Int)) (hll : left.length ≤ 1000) (hol : os.length ≤ 1000) (hos : ∀ i ∈ os, i ∈ left) :
    Calls Tryz.prog 56 #[.agg #[I m, .slice A l.length ca, .slice B ts.length cb, .slice C ns.length cc, I hd], .agg #[I q, .slice X os.length cx], .slice F left.length cf] w0 fun e w' =>
      e = .returned (I (encB (nextN m l ts ns hd q (atN ts ns q os) os left))) ∧ Below w0.heap.size w0 w' := by
  have H := SH.refl w0
  have htr := hK.tr ts[q] (List.getElem_mem hq)
  obtain ⟨dp, hdp⟩ := Int.eq_ofNat_of_zero_le htr.1.1
  have hnode : ∀ (i : Nat) (h : i < ns.length), nodeD ns i < m ∧ ns[i].node = (nodeD ns i : Nat) := fun i h => by
    have h1 := hK.nd ns[i] (List.getElem_mem h)
    unfold nodeD; rw [needAt_eq h]; omega
  refine Calls.ofWP Tryz.func56 rfl Tryz.results56 Tryz.ntmps56 rfl <| Y.qr <| Y.bx (cA rfl) H ?_
  clear H; intro g3 w H
  refine Y.bx (cA rfl) H ?_
  clear H; intro g4 w H
  refine Y.b rfl <| Y.z <| Y.q ?_
  obtain ⟨bt, ot, rfl, htc⟩ := hN.t q hq
  obtain ⟨q1, _⟩ := htc
  rw [hdp] at q1
  refine Y.r <| Y.fa rfl rfl <| Y.j H 1 rfl rfl rfl <| Y.fa rfl rfl <| Y.j H 0 rfl rfl rfl <| Y.v (Y.X rfl rfl rfl rfl rfl) <| Y.fa rfl rfl <| Y.v (Y.c (H.ld0 (by assumption)) rfl) ?_
  refine Y.b rfl <| Y.z <| Y.q <| Y.qr <| Y.fa rfl rfl <| Y.j H 0 rfl rfl rfl <| Y.v (Y.n rfl) <| Y.v (Ev.gtr rfl rfl) <| Y.z ?_
  refine WP.cut [7, 28, 29, 30, 31, 32, 33, 34, 35, 36, 37, 38, 39, 40] (fun e w' => e 7 = I (atN ts ns q os : Nat) ∧ SH w0 [] w' [⟨g4, 49, [I q, .slice X os.length cx]⟩, ⟨g3, 28, [I m, .slice A l.length ca, .slice (some ⟨bt, ot, none⟩) ts.length cb, .slice C ns.length cc, I hd]⟩]) ?_ ?_
  · refine WP.cond rfl (fun hc2 => ?_) (fun hc2 => ?_)
    · have hpos : 0 < os.length := by simpa using hc2
      obtain ⟨bx, ox, rfl, hxc⟩ := onesLt hX hpos
      have hlast : os.getLast? = some os[os.length - 1] := by rw [List.getLast?_eq_getElem?, List.getElem?_eq_getElem (by omega)]
      have h1 := hin _ (hos _ (List.getElem_mem (show os.length - 1 < os.length by omega)))
      have hx1 := hxc (os.length - 1) (by omega)
      obtain ⟨p, hp⟩ := Int.eq_ofNat_of_zero_le h1.1
      rw [hp] at hx1
      have hpl : p < ns.length := by omega
      obtain ⟨hnp, hnq⟩ := hnode p hpl
      obtain ⟨bn, on, rfl, hy⟩ := hN.n p hpl
      obtain ⟨q2, _⟩ := hy
      rw [hnq] at q2
      have hat : atN ts ns q os = nodeD ns p := by unfold atN; rw [hlast, hp]
      have hidx : (os.length : Int) - 1 = ((os.length - 1 : Nat) : Int) := by omega
      refine WP.rstill mixed (by kernel_rfl) H ?_
      clear H; intro w hbw3 H
      refine Y.fa rfl rfl <| Y.j H 1 rfl rfl rfl <| Y.fa rfl rfl <| Y.j H 0 rfl rfl rfl <| Y.fa rfl rfl <| Y.j H 0 rfl rfl rfl <| Y.v (Y.n rfl) <| Y.v (Y.s rfl rfl) <| Y.v (Ev.indexAddr1 (j := os.length - 1) (el_run rfl) (size_run rfl) rfl rfl hidx (by omega)) <| Y.v (Y.c (H.ld0 (by assumption)) rfl) ?_
      refine Y.v (Y.X rfl rfl rfl rfl rfl) <| Y.fa rfl rfl <| Y.v (Y.c (H.ld0 (by assumption)) rfl) ?_
      refine Y.b rfl <| OPS.nil_s ?_
      have h7 : I (nodeD ns p : Nat) = I (atN ts ns q os : Nat) := by rw [hat]
      exact ⟨Y.ag, h7, H⟩
    have h7 : I (dp : Int) = I (atN ts ns q os : Nat) := by
      have h0 : os = [] := by
        cases os with
        | nil => rfl
        | cons a t => simp at hc2
      subst h0
      unfold atN
      simp [hq]; omega
    refine Y.k ?_
    exact ⟨Y.ag, h7, H⟩
  clear H
  rintro u w ⟨h7, H⟩
  refine WP.know (t := 7) h7 ?_
  have ham : atN ts ns q os < m := by
    unfold atN
    cases hg : os.getLast? with
    | none => simp [hq]; omega
    | some i =>
      have h1 := hin i (hos i (List.mem_of_getLast? hg))
      obtain ⟨p, rfl⟩ := Int.eq_ofNat_of_zero_le h1.1
      exact (hnode p (by omega)).1
  generalize atN ts ns q os = a at *
  obtain ⟨hte, htl⟩ := timesOf_ok hK.road ham
  have htn := timesL_length m l a
  have htc := fun w hz => r8Times m a A l ca w hz
  rw [htl, hte, htn] at htc
  refine Y.qr <| Y.fa rfl rfl <| Y.v (Ev.loadN [_, _] (agg_run rfl) (size_run rfl) rfl ⟨H.ldL 1 rfl _ rfl, H.ldL 1 rfl _ rfl, trivial⟩) <| Y.a rfl <| OPS.call (d := some 45) rfl rfl rfl (EvC.func (fun_run rfl)) (htc w (hN.sh H).l) ?_
  rintro _ w ⟨TA, Lc, rfl, hOL, Hc⟩
  refine ⟨_, rfl, ?_⟩
  replace H := SH.call (L1 := _) (Lv := []) (by rw [List.append_nil]; exact H) Hc
  clear Hc
  simp only [List.cons_append, List.nil_append] at H
  refine Y.v (Ev.mvT rfl) <| Y.v (Ev.extract rfl rfl) <| Y.v (Ev.extract rfl rfl) <| Y.v (Ev.asS rfl) <| Y.b rfl <| Y.z <| Y.qr <| Y.b rfl <| Y.z <| Y.q <| Y.qr <| Y.b rfl <| Y.z <| WP.block <| WP.loop [10, 11, 12, 13, 14, 15, 16, 48, 49, 50, 51, 52, 53, 54, 55, 56, 57, 58, 59, 60, 61, 62, 63, 64, 65, 66, 67, 68, 69, 70, 71, 72, 73, 74, 75, 76, 77, 78, 79, 80, 81, 82, 83, 84, 85, 86, 87, 88, 89, 90, 91, 92, 93, 94, 95, 96, 97, 98, 99, 100, 101, 102, 103, 104] (fun k e w' => ∃ (j : Nat) (b : Option Int), j + k = left.length ∧ e 11 = I j ∧ e 10 = I (encB b) ∧ b = (left.take j).foldl (nextS m l ts ns hd q a os) none ∧ SH w0 [] w' (⟨g4, 49, [I q, .slice X os.length cx]⟩ :: ⟨g3, 28, [I m, .slice A l.length ca, .slice (some ⟨bt, ot, none⟩) ts.length cb, .slice C ns.length cc, I hd]⟩ :: Lc)) (left.length) (⟨0, none, by omega, rfl, rfl, rfl, H⟩) ?_
  clear H
  rintro k2 u2 w ⟨j, b, hk2, h11, h10, hb, H⟩
  refine WP.know (t := 11) h11 (WP.know (t := 10) h10 ?_)
  refine Y.q <| Y.qr <| Y.a rfl <| Y.v (Ev.mvS rfl) <| Y.v (Y.n rfl) <| Y.v (Ev.lss rfl rfl) <| Y.z ?_
  refine WP.cond rfl (fun hc7 => ?_) (fun hc7 => ?_)
  · have hlt : j < left.length := by simpa using hc7
    obtain ⟨bl, ol, rfl, hx⟩ := hF j hlt
    have hir := hin left[j] (List.getElem_mem hlt)
    obtain ⟨i, hi⟩ := Int.eq_ofNat_of_zero_le hir.1
    have htk : (left.take (j + 1)).foldl (nextS m l ts ns hd q a os) none = nextS m l ts ns hd q a os b (i : Int) := by
      rw [List.take_succ_eq_append_getElem hlt, List.foldl_append, ← hb, hi]; rfl
    rw [hi] at hx hir
    have hil : i < ns.length := by omega
    obtain ⟨bn, on, hCe, hy⟩ := hN.n i hil
    obtain ⟨hni, hnn⟩ := hnode i hil
    obtain ⟨q2, _⟩ := hy
    rw [hnn] at q2
    have hbz : ∀ z, b = some z → 0 ≤ z ∧ z < (ns.length : Int) := fun z hz => by
      rcases nextN_some _ (hb.symm.trans hz) with h | ⟨h, _⟩
      · cases h
      · exact hin z (List.mem_of_mem_take h)
    have hzz : ¬ encB b < 0 → b = some (encB b) ∧ encB b = ((encB b).toNat : Int) ∧ (encB b).toNat < ns.length := fun h => by
      cases hbb : b with
      | none => rw [hbb] at h; exact absurd (by decide) h
      | some z =>
        have := hbz z hbb
        have he : encB (some z) = z := rfl
        rw [he]
        exact ⟨rfl, by omega, by omega⟩
    have hzn : ¬ encB b < 0 → w0.cell? ⟨bn, on + (encB b).toNat * 2, none⟩ = some (I (nodeD ns (encB b) : Nat)) := fun h => by
      obtain ⟨_, h2, h3⟩ := hzz h
      obtain ⟨b', o', e', hy'⟩ := hN.n (encB b).toNat h3
      rw [hCe] at e'; cases e'
      obtain ⟨h4, h5⟩ := hnode (encB b).toNat h3
      have h6 := hy'.1
      rw [h5, ← h2] at h6
      exact h6
    have hzm : ¬ encB b < 0 → nodeD ns (encB b) < m := fun h => by
      obtain ⟨_, h2, h3⟩ := hzz h
      have := (hnode (encB b).toNat h3).1
      rwa [← h2] at this
    subst hCe
    have hcl : decide (encB b < 0) = false → ¬ encB b < 0 := fun h => of_decide_eq_false h
    have hob : (os ++ [(i : Int)]).length = os.length + 1 := by simp
    refine Y.k <| Y.q <| WP.block <| Y.qr <| Y.v (Ev.mvS rfl) <| Y.a rfl <| Y.v (Y.x rfl rfl rfl rfl) <| Y.v (Y.c (H.ld0 (by assumption)) rfl) ?_
    refine Y.b rfl <| Y.z <| Y.q <| Y.qr <| Y.fa rfl rfl <| Y.j H 0 rfl rfl rfl <| Y.a rfl <| OPS.call (d := some 61) rfl rfl rfl (EvC.func (fun_run rfl)) (r45Has X os cx i w (hX.sh H) hol) ?_
    rintro _ w ⟨rfl, hb⟩
    refine ⟨_, rfl, ?_⟩
    replace H := H.toBelow hb; clear hb
    refine Y.z ?_
    refine WP.cond rfl (fun hc10 => ?_) (fun hc10 => ?_)
    · have hio : (i : Int) ∈ os := by simpa using hc10
      have hb3 : b = nextS m l ts ns hd q a os b (i : Int) := (if_pos (.inl hio)).symm
      obtain ⟨b2, hb2, hb3⟩ : ∃ b2, encB b = encB b2 ∧ b2 = nextS m l ts ns hd q a os b (i : Int) := ⟨b, rfl, hb3⟩
      refine WP.exit <| XB.hit <| Y.r <| Y.a rfl <| Y.v (Y.p rfl rfl) <| Y.b rfl <| Y.z ?_
      exact ⟨Y.ag, k2 - 1, by omega, j + 1, b2, by omega, rfl, congrArg I hb2, (by rw [htk]; exact hb3), H.drop Sb.out⟩
    have hno : (i : Int) ∉ os := by simpa using hc10
    refine Y.k <| Y.qr <| OPS.buildSlice rfl rfl rfl rfl (bsl_32_0_ (e := fun _ => .int .i64 0)) H ?_
    clear H; intro g62 w H
    refine Y.fa rfl rfl <| Y.j H 1 rfl rfl rfl <| OPS.appendE (m := os.length) (news := os.map I) rfl rfl rfl rfl rfl (sl_run rfl) rfl rfl (OwnS.mt (g := g62)) (by simp) (intsFrom (hX.sh H)) (intsOne _) (by omega) (by unfold maxLen; omega) H (List.perm_append_singleton _ _).symm ?_
    clear H; intro AE ce Le w hOE H
    rw [Nat.zero_add, List.nil_append] at hOE
    rw [show 0 + os.length = os.length from Nat.zero_add _]
    simp only [List.cons_append] at H
    refine Y.a rfl <| OPS.buildSlice rfl rfl rfl rfl (bsl_32_1_0 rfl) H ?_
    clear H; intro g67 w H
    refine OPS.append (m := 1) (news := [I i]) (R := ⟨g67, 3, [I i]⟩ :: ⟨g4, 49, [I q, .slice X os.length cx]⟩ :: ⟨g3, 28, [I m, .slice A l.length ca, .slice (some ⟨bt, ot, none⟩) ts.length cb, .slice (some ⟨bn, on, none⟩) ns.length cc, I hd]⟩ :: Lc) rfl rfl rfl rfl rfl (sl_run rfl) rfl rfl hOE rfl (src_own H 0 rfl) rfl (by omega) (by unfold maxLen; omega) H (List.Perm.refl _) ?_
    clear H hOE; intro AE ce Le w hOE H
    replace hOE : OwnS AE ce (os.length + 1) ((os ++ [(i : Int)]).map I) 3 1 Le := by simpa using hOE
    simp only [List.cons_append] at H
    refine Y.v (Ev.asS rfl) <| Y.z <| Y.q <| Y.q ?_
    have hwk := fun w hz ht hn hr => r42Walk m hd q A (some ⟨bt, ot, none⟩) (some ⟨bn, on, none⟩) AE l ts ns (os ++ [(i : Int)]) ca cb cc ce w hz ht hn hr (by unfold maxLen; omega)
    rw [hob] at hwk
    refine Y.r <| Y.v (Y.o H 2 rfl rfl) <| Y.fa rfl rfl <| Y.j H 1 rfl rfl rfl <| Y.v (Ev.mvS rfl) <| Y.v (Ev.build (bld_49_0_1 rfl rfl)) <| OPS.call (d := some 75) rfl rfl rfl (EvC.func (fun_run rfl)) (hwk w (hN.sh H).l (hN.sh H).t (hN.sh H).n (hOE.ones (R := []) (H.drop (L' := Le) Sb.out)).1) ?_
    rintro _ w ⟨W, cw, Lw, rfl, hOW, Hc⟩
    refine ⟨_, rfl, ?_⟩
    replace H := SH.call (L1 := _) (Lv := []) (by rw [List.append_nil]; exact H) Hc
    clear Hc
    simp only [List.cons_append] at H
    refine Y.v (Ev.mvT rfl) <| Y.v (Ev.extract rfl rfl) <| Y.v (Ev.extract rfl rfl) <| Y.v (Ev.extract rfl rfl) <| Y.v (Ev.asS rfl) <| Y.b rfl <| Y.b rfl <| Y.z <| Y.qr <| Y.a rfl <| Y.v (Ev.neq rfl rfl) <| Y.z ?_
    refine WP.cond rfl (fun hc13 => ?_) (fun hc13 => ?_)
    · have hw0 : walkE m l ts ns hd q (os ++ [(i : Int)]) ≠ 0 := by simpa using hc13
      obtain ⟨b2, hb2, hb3⟩ : ∃ b2, encB b = encB b2 ∧ b2 = nextS m l ts ns hd q a os b (i : Int) := ⟨b, rfl, (if_pos (.inr hw0)).symm⟩
      refine WP.exit <| XB.hit <| Y.r <| Y.a rfl <| Y.v (Y.p rfl rfl) <| Y.b rfl <| Y.z ?_
      exact ⟨Y.ag, k2 - 1, by omega, j + 1, b2, by omega, rfl, congrArg I hb2, (by rw [htk]; exact hb3), H.drop Sb.out⟩
    have hw0 : walkE m l ts ns hd q (os ++ [(i : Int)]) = 0 := by simpa using hc13
    obtain ⟨bT, oT, rfl, hcT⟩ := onesLt (hOL.rd H (fun b hb => List.mem_cons_of_mem _ (List.mem_cons_of_mem _ (List.mem_cons_of_mem _ (List.mem_append_left _ (List.mem_append_left _ hb)))))) (by rw [htn]; omega)
    have q3 := hcT (nodeD ns i) (by rw [htn]; exact hni)
    rw [timesL_at] at q3
    have q4 : ¬ encB b < 0 → w.cell? ⟨bT, oT + nodeD ns (encB b), none⟩ = some (I (roadT m l a (nodeD ns (encB b)))) := fun h => by
      have := hcT (nodeD ns (encB b)) (by rw [htn]; exact hzm h)
      rwa [timesL_at] at this
    refine Y.k <| Y.q <| WP.rstill mixed (by kernel_rfl) H ?_
    clear H; intro w hbw14 H
    replace q3 := cell_below hbw14 q3
    replace q4 := fun h => cell_below hbw14 (q4 h)
    refine Y.a rfl <| Y.v (Ev.lss rfl rfl) <| Y.v (Ev.mvB rfl) <| Y.g rfl rfl (fun hg => Ev.mvS rfl) <| Y.g rfl rfl (fun hg => Y.f rfl rfl) <| Y.y rfl rfl H 2 (fun hg => gvE hg rfl) rfl rfl <| Y.g rfl rfl (fun hg => Y.m rfl) <| Y.g rfl rfl (fun hg => Ev.indexAddr (el_run rfl) (size_run rfl) (gvE hg rfl) (gvE hg rfl) rfl (by omega)) <| Y.g rfl rfl (fun hg => Ev.fieldAddr (fld_run rfl) (gvE hg rfl)) <| Y.g rfl rfl (fun hg => Ev.load1 (agg_run rfl) (gvE hg rfl) (H.ld0 (by assumption))) ?_
    refine Y.g rfl rfl (fun hg => Ev.indexAddr1 (el_run rfl) (size_run rfl) (gvE hg rfl) (gvE hg rfl) rfl (by omega)) <| Y.g rfl rfl (fun hg => Ev.load1 (agg_run rfl) (gvE hg rfl) (by assumption)) ?_
    refine Y.g rfl rfl (fun hg => Ev.mvS rfl) <| Y.g rfl rfl (fun hg => Y.f rfl rfl) <| Y.y rfl rfl H 2 (fun hg => gvE hg rfl) rfl rfl <| Y.g rfl rfl (fun hg => Y.m rfl) <| OPS.gval (v := .pointer (some ⟨bn, on + (encB b).toNat * 2, none⟩)) rfl rfl rfl rfl rfl (fun hg => Ev.indexAddr (j := (encB b).toNat) (el_run rfl) (size_run rfl) (gvE hg rfl) (gvE hg rfl) (hzz (hcl hg)).2.1 (hzz (hcl hg)).2.2) <| Y.g rfl rfl (fun hg => Ev.fieldAddr (fld_run rfl) (gvE hg rfl)) <| OPS.gval (v := I (nodeD ns (encB b) : Nat)) rfl rfl rfl rfl rfl (fun hg => Ev.load1 (agg_run rfl) (gvE hg rfl) (H.ld0 (hzn (hcl hg)))) <| OPS.gval (v := .pointer (some ⟨bT, oT + nodeD ns (encB b), none⟩)) rfl rfl rfl rfl rfl (fun hg => Ev.indexAddr1 (el_run rfl) (size_run rfl) (gvE hg rfl) (gvE hg rfl) rfl (hzm (hcl hg))) <| OPS.gval (v := I (roadT m l a (nodeD ns (encB b)))) rfl rfl rfl rfl rfl (fun hg => Ev.load1 (agg_run rfl) (gvE hg rfl) (q4 (hcl hg))) <| Y.g rfl rfl (fun hg => Ev.lss (gvE hg rfl) (gvE hg rfl)) <| Y.v (Ev.pickOr rfl rfl rfl) <| OPS.nil_s ?_
    refine WP.cond rfl (fun hc14 => ?_) (fun hc14 => ?_)
    · obtain ⟨b2, hb2, hb3⟩ : ∃ b2, (i : Int) = encB b2 ∧ b2 = nextS m l ts ns hd q a os b (i : Int) := ⟨some i, rfl, by
        unfold nextS
        rw [if_neg (by simp [hno, hw0])]
        cases hbb : b with
        | none => rfl
        | some z =>
          have h1 := (hbz z hbb).1
          rw [hbb] at hc14
          have h2 : encB (some z) = z := rfl
          rw [h2] at hc14
          have h3 : ¬ z < 0 := by omega
          simp [h3] at hc14
          exact (if_pos hc14).symm⟩
      refine Y.r <| Y.a rfl <| Y.b rfl <| Y.z <| Y.r <| Y.a rfl <| Y.v (Y.p rfl rfl) <| Y.b rfl <| Y.z ?_
      exact ⟨Y.ag, k2 - 1, by omega, j + 1, b2, by omega, rfl, congrArg I hb2, (by rw [htk]; exact hb3), H.drop Sb.out⟩
    obtain ⟨b2, hb2, hb3⟩ : ∃ b2, encB b = encB b2 ∧ b2 = nextS m l ts ns hd q a os b (i : Int) := ⟨b, rfl, by
      unfold nextS
      rw [if_neg (by simp [hno, hw0])]
      cases hbb : b with
      | none => rw [hbb] at hc14; simp [encB] at hc14
      | some z =>
        have h1 := (hbz z hbb).1
        rw [hbb] at hc14
        have h2 : encB (some z) = z := rfl
        rw [h2] at hc14
        have h3 : ¬ z < 0 := by omega
        simp [h3] at hc14
        exact (if_neg (by omega)).symm⟩
    refine Y.k <| Y.r <| Y.a rfl <| Y.v (Y.p rfl rfl) <| Y.b rfl <| Y.z ?_
    exact ⟨Y.ag, k2 - 1, by omega, j + 1, b2, by omega, rfl, congrArg I hb2, (by rw [htk]; exact hb3), H.drop Sb.out⟩
  have hj : j = left.length := by simp at hc7; omega
  rw [hj, List.take_length] at hb
  refine WP.exit <| XB.hit <| Y.qr <| Y.a rfl <| Y.b rfl <| Y.z ?_
  refine WP.ret ⟨_, rfl, ?_⟩
  exact ⟨by rw [show nextN m l ts ns hd q a os left = b from hb.symm]; rfl, H.below⟩
theorem r45Greedy (m q : Nat) (hd : Int) (A B C F : Option Addr) (l : List Edg) (ts : List Truck) (ns : List Need) (left : List Int) (ca cb cc cf : Nat) (w0 : World) (hN : NightAt w0 A B C l ts ns cc) (hF : IntsAt w0 F left)
    (hK : NightOk m l ts ns hd) (hq : q < ts.length) (hin : ∀ i ∈ left, 0 ≤ i ∧ i < (ns.length : Int)) (hll : left.length ≤ 1000) :
    Calls Tryz.prog 32 #[.agg #[I m, .slice A l.length ca, .slice B ts.length cb, .slice C ns.length cc, I hd], I q, .slice F left.length cf] w0 fun e w' => ∃ (x : List Int) (X : Option Addr) (c : Nat) (L : List Blk), e = .returned (.agg #[I q, .slice X x.length c]) ∧ x = greedyL m l ts ns hd q left left.length [] ∧ OwnS X c x.length (x.map I) 3 1 L ∧ SH w0 [] w' L := by
  have H := SH.refl w0
  refine Calls.ofWPc Tryz.func32 rfl Tryz.results32 Tryz.ntmps32 rfl <| Y.qr <| Y.bx (cA rfl) H ?_
  clear H; intro g3 w H
  refine Y.al H rfl rfl ?_
  clear H; intro g6 w H
  refine Y.z <| Y.qr <| Y.a rfl <| Y.v (Ev.build (bld_49_0 rfl)) <| Y.al H rfl rfl ?_
  clear H; intro g7 w H
  refine Y.ss 0 H rfl (cA rfl) rfl ?_
  clear H; intro w H
  refine Y.z <| Y.q <| Y.qr <| Y.b rfl <| Y.z <| WP.block <| WP.loop [8, 9, 12, 13, 14, 15, 16, 17, 18, 19, 20, 21, 22, 23, 24, 25, 26, 27, 28, 29, 30, 31, 32] (fun k e w' => ∃ (os : List Int) (j : Nat) (V : Option Addr) (cv : Nat) (Lv : List Blk), e 8 = I j ∧ j + k = left.length ∧ os.length ≤ j ∧ greedyL m l ts ns hd q left k os = greedyL m l ts ns hd q left left.length [] ∧ GrOk m l ts ns hd q left os ∧ OwnS V cv os.length (os.map I) 3 1 Lv ∧ SH w0 [] w' (⟨g7, 49, [I q, .slice V os.length cv]⟩ :: ⟨g6, 49, [I 0, .slice none 0 0]⟩ :: ⟨g3, 28, [I m, .slice A l.length ca, .slice B ts.length cb, .slice C ns.length cc, I hd]⟩ :: Lv)) (left.length) (⟨[], 0, none, 0, [], rfl, by omega, by simp, rfl, GrOk.nil, OwnS.nil, H⟩) ?_
  clear H
  rintro k u w ⟨os, j, V, cv, Lv, h8, hkk, hoj, hgr, hGr, hOV, H⟩
  refine WP.know (t := 8) h8 <| Y.q <| Y.qr <| Y.a rfl <| Y.v (Ev.mvS rfl) <| Y.v (Y.n rfl) <| Y.v (Ev.lss rfl rfl) <| Y.z ?_
  refine WP.cond rfl (fun hc3 => ?_) (fun hc3 => ?_)
  · have hlt : j < left.length := by simpa using hc3
    obtain ⟨k, rfl⟩ : ∃ k', k = k' + 1 := ⟨k - 1, by omega⟩
    have hVi := (hOV.ones (R := []) (H.drop (L' := Lv) Sb.out)).1
    rw [greedyL] at hgr
    have hob : ∀ i : Int, (os ++ [i]).length = os.length + 1 := by simp
    refine Y.k <| Y.q <| WP.block <| Y.qr <| Y.v (Y.o H 2 rfl rfl) <| Y.v (Y.o H 0 rfl rfl) <| Y.v (Ev.mvS rfl) <| OPS.call (d := some 21) rfl rfl rfl (EvC.func (fun_run rfl)) (r45Next m q hd A B C F V l ts ns left os ca cb cc cf cv w (hN.sh H) (hF.sh H) hVi hK hq hin hll (by omega) hGr.sub) ?_
    rintro _ w ⟨rfl, hb⟩
    refine ⟨_, rfl, ?_⟩
    replace H := H.toBelow hb; clear hb
    refine Y.b rfl <| Y.z <| Y.q <| Y.qr <| Y.a rfl <| Y.v (Ev.lss rfl rfl) <| Y.z ?_
    refine WP.cond rfl (fun hc6 => ?_) (fun hc6 => ?_)
    · refine Y.qr <| Y.v (Y.o H 0 rfl rfl) <| Y.ss 1 H rfl (cA rfl) rfl ?_
      clear H; intro w H
      refine Y.z ?_
      refine WP.ret ⟨[_], ⟨(by exact resCellA 1 H rfl (agg_run rfl) (size_run rfl) (by rfl) rfl), trivial⟩, ?_⟩
      have hbn : nextN m l ts ns hd q (atN ts ns q os) os left = none := by
        cases hbb : nextN m l ts ns hd q (atN ts ns q os) os left with
        | none => rfl
        | some z =>
          rcases nextN_some _ hbb with h | ⟨h, _⟩
          · cases h
          · have h1 := (hin z h).1
            rw [hbb] at hc6
            have h2 : ¬ z < 0 := by omega
            exact absurd (of_decide_eq_true hc6) h2
      rw [hbn] at hgr
      exact ⟨os, V, cv, Lv, rfl, hgr, hOV, H.drop Sb.out⟩
    obtain ⟨z, hbz⟩ : ∃ z, nextN m l ts ns hd q (atN ts ns q os) os left = some z := by
      cases hbb : nextN m l ts ns hd q (atN ts ns q os) os left with
      | none => rw [hbb] at hc6; exact absurd hc6 (by decide)
      | some z => exact ⟨z, rfl⟩
    obtain ⟨hG2, hzl, hzo⟩ := hGr.step hbz
    rw [hbz] at hgr ⊢
    refine Y.k <| Y.r <| OPS.buildSlice rfl rfl rfl rfl (bsl_32_0_ (e := fun _ => .int .i64 0)) H ?_
    clear H; intro g25 w H
    refine Y.fa rfl rfl <| Y.j H 1 rfl rfl rfl <| OPS.appendE (m := os.length) (news := os.map I) rfl rfl rfl rfl rfl (sl_run rfl) rfl rfl (OwnS.mt (g := g25)) (by simp) (intsFrom (hOV.ones (R := []) (H.drop (L' := Lv) Sb.out)).1) (intsOne _) (by omega) (by unfold maxLen; omega) H (List.perm_append_singleton _ _).symm ?_
    clear H; intro AE ce Le w hOE H
    rw [Nat.zero_add, List.nil_append] at hOE
    rw [show 0 + os.length = os.length from Nat.zero_add _]
    simp only [List.cons_append] at H
    refine Y.a rfl <| OPS.buildSlice rfl rfl rfl rfl (bsl_32_1_0 rfl) H ?_
    clear H; intro g30 w H
    refine OPS.append (m := 1) (news := [I z]) (R := ⟨g30, 3, [I z]⟩ :: ⟨g7, 49, [I q, .slice V os.length cv]⟩ :: ⟨g6, 49, [I 0, .slice none 0 0]⟩ :: ⟨g3, 28, [I m, .slice A l.length ca, .slice B ts.length cb, .slice C ns.length cc, I hd]⟩ :: Lv) rfl rfl rfl rfl rfl (sl_run rfl) rfl rfl hOE rfl (src_own H 0 rfl) rfl (by omega) (by unfold maxLen; omega) H (List.Perm.refl _) ?_
    clear H hOE; intro AE ce Le w hOE H
    replace hOE : OwnS AE ce (os.length + 1) ((os ++ [z]).map I) 3 1 Le := by simpa using hOE
    simp only [List.cons_append] at H
    refine Y.fa rfl rfl <| Y.ss 1 H rfl (cS rfl) rfl ?_
    clear H; intro w H
    refine Y.z <| Y.r <| Y.a rfl <| Y.v (Y.p rfl rfl) <| Y.b rfl <| Y.z ?_
    exact ⟨Y.ag, k, by omega, os ++ [z], j + 1, AE, ce, Le, rfl, by omega, by rw [hob]; omega, hgr, hG2, (by rw [hob]; exact hOE), (by
      rw [hob]
      exact H.drop Sb.out)⟩
  refine WP.exit <| XB.hit <| Y.qr <| Y.v (Y.o H 0 rfl rfl) <| Y.ss 1 H rfl (cA rfl) rfl ?_
  clear H; intro w H
  refine Y.z ?_
  refine WP.ret ⟨[_], ⟨(by exact resCellA 1 H rfl (agg_run rfl) (size_run rfl) (by rfl) rfl), trivial⟩, ?_⟩
  have h0 : k = 0 := by have : ¬ j < left.length := by simpa using hc3
                        omega
  subst h0
  exact ⟨os, V, cv, Lv, rfl, hgr, hOV, H.drop Sb.out⟩
end Go.Proofs.YtgcokllbophkkaaGreat
namespace Go.Proofs.YtgcokllbophkkaaGreat
open Go Go.W Go.RowKit
theorem slIndexFuncD (A : Option Addr) (l : List Int) (cap : Nat) (f : Nat) (caps : List Value) (p : Int → Bool) (w0 : World) (hz : IntsAt w0 A l) (hl : l.length ≤ maxLen) (hfun : funT f = true)
  (hf : ∀ x ∈ l, ∀ w, Below w0.heap.size w0 w → Calls Tryz.prog f ([(I x : Value)] ++ caps).toArray w fun e w' => e = .returned (.bool (p x)) ∧ Below w.heap.size w w') :
  Calls Tryz.prog 51 #[.slice A l.length cap, .func (.func f) #[] caps.toArray] w0 fun e w' => ∃ r : Int, e = .returned (I r) ∧ ((r = -1 ∧ ∀ i (h : i < l.length), p l[i] = false) ∨ ∃ (j : Nat) (h : j < l.length), r = j ∧ p l[j] = true ∧ ∀ i (h : i < l.length), i < j → p l[i] = false) ∧ Below w0.heap.size w0 w' := by
 have H := SH.refl w0
 have hl' : l.length ≤ 9223372036854775807 := by unfold maxLen at hl; omega
 refine Calls.ofWP Tryz.func51 rfl Tryz.results51 Tryz.ntmps51 rfl <| Y.qr <| Y.b rfl <| Y.z <| Y.q <| Y.qr <| Y.v (Ev.mvS rfl) <| Y.v (Y.n rfl) <| Y.a rfl <| Y.z <| WP.block <| WP.loop [4, 5, 8, 9, 10, 11, 12, 13, 14, 15, 16, 17, 18] (fun k e w' => ∃ j : Nat, j + k = l.length ∧ e 8 = I j ∧ SH w0 [] w' [] ∧ ∀ i (h : i < l.length), i < j → p l[i] = false) (l.length) (⟨0, by omega, rfl, H, fun i _ hi => absurd hi (by omega)⟩) ?_
 clear H
 rintro k u w ⟨j, hk, h8, H, hall⟩
 refine WP.know (t := 8) h8 <| Y.qr <| Y.v (Ev.lss rfl rfl) <| Y.z <| Y.q ?_
 refine WP.cond rfl (fun hc2 => ?_) (fun hc2 => ?_)
 ·have hlt : j < l.length := by simpa using hc2
  obtain ⟨b, o, rfl, hx⟩ := hz j hlt
  refine Y.k <| Y.q <| WP.block <| Y.qr <| Y.a rfl <| Y.b rfl <| Y.z <| Y.qr <| Y.v (Ev.mvF rfl) <| Y.v (Ev.mvS rfl) <| Y.a rfl <| Y.v (Y.x rfl rfl rfl rfl) <| Y.v (Y.c (H.ld0 (by assumption)) rfl) ?_
  refine OPS.call (d := some 16) rfl rfl rfl (EvC.clos rfl (fun_run (by assumption))) (hf l[j] (List.getElem_mem hlt) w H.below) ?_
  rintro _ w ⟨rfl, hb⟩
  refine ⟨_, rfl, ?_⟩
  replace H := H.toBelow hb; clear hb
  refine Y.z ?_
  refine WP.cond rfl (fun hc4 => ?_) (fun hc4 => ?_)
  ·refine Y.qr <| Y.a rfl <| Y.b rfl <| Y.z ?_
   refine WP.ret ⟨_, rfl, ?_⟩
   exact ⟨j, rfl, .inr ⟨j, hlt, rfl, hc4, hall⟩, H.below⟩
  refine Y.k <| Y.r <| Y.v (Y.p rfl rfl) <| Y.a rfl <| Y.z ?_
  refine ⟨Y.ag, k - 1, by omega, j + 1, by omega, rfl, H, fun i hi hij => ?_⟩
  rcases Nat.lt_succ_iff_lt_or_eq.1 hij with h | rfl
  ·exact hall i hi h
  ·exact hc4
 refine WP.exit <| XB.hit <| Y.qr <| Y.b rfl <| Y.z ?_
 refine WP.ret ⟨_, rfl, ?_⟩
 exact ⟨-1, rfl, .inl ⟨rfl, fun i hi => hall i hi (by simp at hc2; omega)⟩, H.below⟩
theorem filtD {p : Int → Bool} {l : List Int} {j : Nat} (h : j < l.length) : (l.take (j + 1)).filter (fun x => !p x) = (l.take j).filter (fun x => !p x) ++ if p l[j] = true then [] else [l[j]] := by
 rw [List.take_succ_eq_append_getElem h, List.filter_append]
 by_cases hp : p l[j] = true <;> simp [hp]
theorem slDelete (g : Nat) (l : List Int) (sp : List Value) (cap f : Nat) (caps : List Value) (p : Int → Bool) (w0 : World) (H0 : SH w0 [g] w0 [⟨g, 3, l.map I ++ sp⟩]) (hl : l.length ≤ 1000) (hcap : l.length ≤ cap) (hfun : funT f = true)
  (hf : ∀ (cs : List Value) (w : World), SH w0 [g] w [⟨g, 3, cs⟩] → ∀ x : Int, Calls Tryz.prog f ([(I x : Value)] ++ caps).toArray w fun e w' => e = .returned (.bool (p x)) ∧ Below w.heap.size w w') :
  Calls Tryz.prog 28 #[.slice (some ⟨g, 0, none⟩) l.length cap, .func (.func f) #[] caps.toArray] w0 fun e w' => ∃ sp', e = .returned (.slice (some ⟨g, 0, none⟩) (l.filter fun x => !p x).length cap) ∧ (l.filter fun x => !p x).length + sp'.length = l.length + sp.length ∧ SH w0 [g] w' [⟨g, 3, (l.filter fun x => !p x).map I ++ sp'⟩] := by
 have H := H0
 have hcl : ∀ (cur : List Int) (w : World), SH w0 [g] w [⟨g, 3, cur.map I ++ sp⟩] → ∀ k (h : k < cur.length), w.cell? ⟨g, 0 + k, none⟩ = some (I cur[k]) := fun cur w H k hk => by
  obtain ⟨b, o, e, hc⟩ := OnesAt.own (enc := I) (l := cur) (post := sp) H 0 rfl rfl k hk
  cases e; exact hc
 refine Calls.ofWP Tryz.func28 rfl Tryz.results28 Tryz.ntmps28 rfl <| Y.qr <| Y.v (Ev.asS rfl) <| Y.z <| Y.qr <| Y.v (Ev.mvS rfl) <| Y.v (Ev.mvF rfl) <| OPS.call (d := some 10) rfl rfl rfl (EvC.func (fun_run rfl)) (slIndexFuncD (some ⟨g, 0, none⟩) l cap f caps p w0 (OnesAt.own (enc := I) (l := l) (post := sp) H 0 rfl rfl) (by unfold maxLen; omega) hfun (fun x _ w2 hb => hf _ w2 (H.toBelow hb) x)) ?_
 rintro _ w ⟨r, rfl, hr, hb⟩
 refine ⟨_, rfl, ?_⟩
 replace H := H.toBelow hb
 clear hb
 refine Y.b rfl <| Y.z <| Y.q <| Y.qr <| Y.a rfl <| Y.v (Ev.eql rfl rfl) <| Y.z ?_
 refine WP.cond rfl (fun hc2 => ?_) (fun hc2 => ?_)
 ·refine Y.qr <| Y.v (Ev.mvS rfl) <| Y.v (Ev.asS rfl) <| Y.z ?_
  refine WP.ret ⟨_, rfl, ?_⟩
  have hr1 : r = -1 := by simpa using hc2
  have hfl : l.filter (fun x => !p x) = l := by
   rcases hr with ⟨_, h⟩ | ⟨j, _, h, _⟩
   ·exact List.filter_eq_self.2 fun x hx => by
     obtain ⟨i, hi, rfl⟩ := List.mem_iff_getElem.1 hx
     simp [h i hi]
   ·omega
  rw [hfl]
  exact ⟨sp, rfl, rfl, H⟩
 have hr1 : r ≠ -1 := by simpa using hc2
 obtain ⟨j0, hj0, rfl, hp0, hall⟩ : ∃ (j : Nat) (h : j < l.length), r = j ∧ p l[j] = true ∧ ∀ i (h : i < l.length), i < j → p l[i] = false := by
  rcases hr with ⟨h, _⟩ | h
  ·exact absurd h hr1
  ·exact h
 clear hr hr1
 have hf0 : (l.take j0).filter (fun x => !p x) = l.take j0 := List.filter_eq_self.2 fun x hx => by
  obtain ⟨i, hi, rfl⟩ := List.mem_iff_getElem.1 hx
  rw [List.length_take] at hi
  rw [List.getElem_take]
  simp [hall i (by omega) (by omega)]
 have hf1 : (l.take (j0 + 1)).filter (fun x => !p x) = l.take j0 := by rw [filtD hj0, if_pos hp0, List.append_nil, hf0]
 refine Y.k <| Y.q <| Y.qr <| Y.a rfl <| Y.v (Y.p rfl rfl) <| Y.b rfl <| Y.z <| WP.block <| WP.loop [5, 6, 7, 16, 17, 18, 19, 20, 21, 22, 23, 24, 25, 26, 27, 28, 29, 30, 31, 32, 33, 34, 35] (fun k e w' => ∃ (i m : Nat) (cur : List Int), i + k = l.length ∧ e 6 = I i ∧ e 5 = I m ∧ m < i ∧ cur.length = l.length ∧ m = ((l.take i).filter fun x => !p x).length ∧ cur.take m = (l.take i).filter (fun x => !p x) ∧ cur.drop i = l.drop i ∧ SH w0 [g] w' [⟨g, 3, cur.map I ++ sp⟩]) ((l.length - (j0 + 1))) (⟨j0 + 1, j0, l, by omega, rfl, rfl, by omega, rfl, (by rw [hf1, List.length_take]; omega), hf1.symm, rfl, H⟩) ?_
 clear H
 rintro k u w ⟨i, m, cur, hk, h6, h5, hmi, hcl2, hml, htk, hdr, H⟩
 refine WP.know (t := 6) h6 (WP.know (t := 5) h5 ?_)
 refine Y.q <| Y.qr <| Y.a rfl <| Y.v (Ev.mvS rfl) <| Y.v (Y.n rfl) <| Y.v (Ev.lss rfl rfl) <| Y.z ?_
 refine WP.cond rfl (fun hc5 => ?_) (fun hc5 => ?_)
 ·have hlt : i < l.length := by simpa using hc5
  have hci : cur[i]'(by omega) = l[i] := by
   have := congrArg (fun l => l[0]?) hdr
   simp only [List.getElem?_drop, Nat.add_zero] at this
   rw [List.getElem?_eq_getElem (by omega), List.getElem?_eq_getElem (by omega)] at this
   exact Option.some.inj this
  have hnx := filtD (p := p) hlt
  refine Y.k <| Y.q <| WP.block <| Y.qr ?_
  have hx := hcl cur w H i (by omega)
  rw [hci] at hx
  refine Y.v (Ev.mvS rfl) <| Y.a rfl <| Y.v (Y.x rfl rfl rfl rfl) <| Y.v (Y.c (by assumption) rfl) ?_
  refine Y.b rfl <| Y.z <| Y.qr <| Y.v (Ev.mvF rfl) <| Y.a rfl <| OPS.call (d := some 28) rfl rfl rfl (EvC.clos rfl (fun_run (by assumption))) (hf _ w H l[i]) ?_
  rintro _ w ⟨rfl, hb⟩
  refine ⟨_, rfl, ?_⟩
  replace H := H.toBelow hb; clear hb
  refine Y.v (Ev.not rfl) <| Y.z ?_
  refine WP.cond rfl (fun hc8 => ?_) (fun hc8 => ?_)
  ·refine Y.q ?_
   have hpf : ¬ p l[i] = true := by simpa using hc8
   rw [if_neg hpf] at hnx
   refine Y.r <| Y.v (Ev.mvS rfl) <| Y.a rfl <| Y.a rfl <| Y.v (Y.x rfl rfl rfl rfl) <| OPS.store (b := ⟨g, 3, cur.map I ++ sp⟩) 0 (0 + m) rfl rfl rfl (size_run rfl) rfl (cI (n := l[i]) rfl) rfl rfl H rfl (by simp; omega) ?_
   clear H; intro w H
   simp only [List.set_cons_zero] at H
   rw [Nat.zero_add, putL_pre (enc := I) cur sp m l[i] (by omega)] at H
   refine Y.z <| Y.r <| Y.a rfl <| Y.v (Y.p rfl rfl) <| Y.b rfl <| Y.z <| Y.r <| Y.a rfl <| Y.v (Y.p rfl rfl) <| Y.b rfl <| Y.z ?_
   first
    | exact ⟨Y.ag, k - 1, by omega, i + 1, m, cur, by omega, rfl, rfl, by omega, hcl2, by rw [hnx]; exact hml, by rw [hnx]; exact htk, by rw [← List.drop_drop, ← List.drop_drop, hdr], H⟩
    | exact ⟨Y.ag, k - 1, by omega, i + 1, m + 1, cur.set m l[i], by omega, rfl, rfl, by omega, by rw [List.length_set]; exact hcl2, by rw [hnx, List.length_append, ← hml]; rfl, by rw [hnx, List.take_succ_eq_append_getElem (by rw [List.length_set]; omega), List.take_set_of_le (Nat.le_refl _), htk, List.getElem_set_self], by rw [List.drop_set_of_lt (by omega), ← List.drop_drop, ← List.drop_drop, hdr], H⟩
  have hpt : p l[i] = true := by simpa using hc8
  rw [if_pos hpt, List.append_nil] at hnx
  refine Y.k <| Y.r <| Y.a rfl <| Y.v (Y.p rfl rfl) <| Y.b rfl <| Y.z ?_
  first
   | exact ⟨Y.ag, k - 1, by omega, i + 1, m, cur, by omega, rfl, rfl, by omega, hcl2, by rw [hnx]; exact hml, by rw [hnx]; exact htk, by rw [← List.drop_drop, ← List.drop_drop, hdr], H⟩
   | exact ⟨Y.ag, k - 1, by omega, i + 1, m + 1, cur.set m l[i], by omega, rfl, rfl, by omega, by rw [List.length_set]; exact hcl2, by rw [hnx, List.length_append, ← hml]; rfl, by rw [hnx, List.take_succ_eq_append_getElem (by rw [List.length_set]; omega), List.take_set_of_le (Nat.le_refl _), htk, List.getElem_set_self], by rw [List.drop_set_of_lt (by omega), ← List.drop_drop, ← List.drop_drop, hdr], H⟩
 have hi : i = l.length := by simp at hc5; omega
 rw [hi, List.take_length] at htk hml
 refine WP.exit <| XB.hit <| Y.qr <| Y.v (Ev.mvS rfl) <| Y.a rfl <| Y.v (Ev.sliceFrom2 (j := m) (el_run rfl) (size_run rfl) rfl rfl rfl (by omega) (by omega)) <| OPS.clear (b := ⟨g, 3, cur.map I ++ sp⟩) 0 (0 + m * 1) rfl rfl rfl (zs := [I 0]) (el_run rfl) (zero_run rfl) rfl (by decide) rfl rfl (by omega) H rfl (by simp; omega) ?_
 clear H; intro w H
 simp only [List.set_cons_zero] at H
 refine Y.z <| Y.qr <| Y.v (Ev.mvS rfl) <| Y.a rfl <| Y.v (Ev.sliceTo (j := m) (el_run rfl) ⟨1, size_run rfl⟩ rfl rfl rfl (by omega)) <| Y.v (Ev.asS rfl) <| Y.z ?_
 refine WP.ret ⟨_, rfl, ?_⟩
 have hpl : ∀ (vs cs : List Value) (k : Nat), (putL cs k vs).length = cs.length := fun vs => by
  induction vs with
  | nil => intro cs k; rfl
  | cons v vs ih => intro cs k; rw [putL, ih, List.length_set]
 refine ⟨(putL (cur.map I ++ sp) (0 + m * 1) (mkL (l.length - m) [I 0])).drop m, by rw [← hml]; rfl, ?_, ?_⟩
 ·rw [← hml, List.length_drop, hpl, List.length_append, List.length_map]; omega
 ·have hpt : ∀ (vs cs : List Value) (k : Nat), m ≤ k → (putL cs k vs).take m = cs.take m := fun vs => by
   induction vs with
   | nil => intro cs k _; rfl
   | cons v vs ih =>
    intro cs k hk
    rw [putL, ih _ _ (by omega), List.take_set_of_le (by omega)]
  have hfin : putL (cur.map I ++ sp) (0 + m * 1) (mkL (l.length - m) [I 0]) = (l.filter fun x => !p x).map I ++ (putL (cur.map I ++ sp) (0 + m * 1) (mkL (l.length - m) [I 0])).drop m := by
   conv => lhs; rw [← List.take_append_drop m (putL (cur.map I ++ sp) (0 + m * 1) (mkL (l.length - m) [I 0]))]
   rw [hpt _ _ _ (by omega), List.take_append_of_le_length (by simp; omega), ← List.map_take, htk]
  rw [← hfin]
  exact H
end Go.Proofs.YtgcokllbophkkaaGreat
namespace Go.Proofs.YtgcokllbophkkaaGreat
open Go Go.W Go.RowKit
theorem MkR.sub {m : Nat} {l : List Edg} {ts : List Truck} {ns : List Need} {hd : Int} {j : Nat} {R : List (Int × List Int)} {left : List Int} (h : MkR m l ts ns hd j R left) : left.Sublist (upto ns.length) := by
  induction h with
  | start => exact List.Sublist.refl _
  | skip _ _ ih => exact ih
  | add _ _ _ ih => exact List.filter_sublist.trans ih
theorem MkR.facts {m : Nat} {l : List Edg} {ts : List Truck} {ns : List Need} {hd : Int} {j : Nat} {R : List (Int × List Int)} {left : List Int} (h : MkR m l ts ns hd j R left) : left.Nodup ∧ (∀ i ∈ left, 0 ≤ i ∧ i < (ns.length : Int)) ∧ left.length ≤ ns.length := by
  have hs := h.sub
  refine ⟨hs.nodup (upto_nodup _), fun i hi => upto_mem.1 (hs.subset hi), ?_⟩
  have := hs.length_le
  rwa [upto_len] at this
theorem RouteR.sub {m : Nat} {l : List Edg} {ts : List Truck} {ns : List Need} {hd : Int} {q : Nat} {left x : List Int} (h : RouteR m l ts ns hd q left x) : x.Nodup ∧ ∀ i ∈ x, i ∈ left := by
  rcases h with ⟨_, h⟩ | ⟨_, rfl⟩
  · exact h.1.1
  · have := greedy_ok (m := m) (l := l) (ts := ts) (ns := ns) (hd := hd) (q := q) (left := left) left.length GrOk.nil
    exact ⟨this.nd, this.sub⟩
theorem ask_zero {m : Nat} {l : List Edg} {ts : List Truck} {ns : List Need} {hd : Int} {q : Nat} {left : List Int} (hE : nightErr m l ts ns hd = 0) (hq : q < ts.length) (hnd : left.Nodup) (hin : ∀ i ∈ left, 0 ≤ i ∧ i < (ns.length : Int)) (h6 : left.length ≤ 6) : askErr m l ts ns hd q left = 0 := by
  have hr : routeErr ts ns q left = 0 := by
    unfold routeErr
    rw [if_neg, if_neg (by unfold twiceB; simpa using hnd)]
    rintro (h | h)
    · rw [outB_or] at h; simp at h; omega
    · obtain ⟨i, h3, h4⟩ := List.any_eq_true.1 h
      have := hin i h3
      rw [outB_or] at h4; simp at h4; omega
  rw [askErr, if_neg (by rw [hE]; simp), if_neg (by rw [hr]; simp), if_neg (by omega)]
theorem MostAns.route {m : Nat} {l : List Edg} {ts : List Truck} {ns : List Need} {hd er r0 : Int} {q : Nat} {left x : List Int} (h : MostAns m l ts ns hd q left er r0 x) (hE : nightErr m l ts ns hd = 0) (hq : q < ts.length) (hnd : left.Nodup) (hin : ∀ i ∈ left, 0 ≤ i ∧ i < (ns.length : Int)) (h6 : left.length ≤ 6) :
    er = 0 ∧ r0 = q ∧ RouteR m l ts ns hd q left x := by
  have h0 := ask_zero hE hq hnd hin h6
  obtain ⟨m', hm, hk⟩ := askOk_of h0
  obtain rfl : m = m' := by omega
  generalize hre : (q : Int) = rt at h
  subst hre
  cases h with
  | no h1 => exact absurd h0 h1
  | ok h1 s hb =>
    refine ⟨rfl, rfl, .inl ⟨h6, ?_⟩⟩
    cases s with
    | none => exact absurd ⟨⟨List.nodup_nil, by simp⟩, hk.nil⟩ (hb [])
    | some y => exact hb
theorem planExact (g m q : Nat) (hd : Int) (A B C F : Option Addr) (l : List Edg) (ts : List Truck) (ns : List Need) (left : List Int) (ca cb cc cf : Nat) (w0 : World) (hN : NightAt w0 A B C l ts ns cc) (hF : IntsAt w0 F left)
    (hg : cellsAt w0 g 0 [I m, .slice A l.length ca, .slice B ts.length cb, .slice C ns.length cc, I hd]) (hE : nightErr m l ts ns hd = 0) (hq : q < ts.length) (hnd : left.Nodup) (hin : ∀ i ∈ left, 0 ≤ i ∧ i < (ns.length : Int)) (h6 : left.length ≤ 6) :
    Calls Tryz.prog 27 #[.pointer (some ⟨g, 0, none⟩), I q, .slice F left.length cf] w0 fun e w' => ∃ (x : List Int) (X : Option Addr) (c : Nat) (L : List Blk), e = .returned (.agg #[I q, .slice X x.length c]) ∧ RouteR m l ts ns hd q left x ∧ OwnS X c x.length (x.map I) 3 1 L ∧ SH w0 [] w' L := by
  have H := SH.refl w0
  refine Calls.ofWPc Tryz.func27 rfl Tryz.results27 Tryz.ntmps27 rfl <| Y.qr <| Y.al H rfl rfl ?_
  clear H; intro g6 w H
  refine Y.z <| Y.qr <| Y.v (Ev.mvP rfl) <| Y.v (Ev.nilCheckP rfl) <| Y.fa rfl rfl ?_
  have hg' := cellsAt_sh H hg
  refine Y.v (by (change Ev _ _ _ _ (Op.load 28 (Operand.tmp 12)) _; exact Ev.loadN [I m, .slice A l.length ca, .slice B ts.length cb, .slice C ns.length cc, I hd] (agg_run rfl) (size_run rfl) rfl hg')) <| Y.a rfl <| Y.v (Ev.mvS rfl) <| OPS.call (d := some 16) rfl rfl rfl (EvC.func (fun_run rfl)) (routeMostX m hd q A B C F l ts ns left ca cb cc cf w (hN.sh H).l (hN.sh H).t (hN.sh H).n hN.c (hF.sh H) (by omega)) ?_
  rintro _ w ⟨er, r0, x, X, c, L, rfl, hA, hOX, Hc⟩
  refine ⟨_, rfl, ?_⟩
  replace H := SH.call (L1 := [_]) (Lv := []) H Hc
  clear Hc
  simp only [List.cons_append, List.nil_append] at H
  obtain ⟨rfl, rfl, hR⟩ := hA.route hE hq hnd hin h6
  refine Y.v (Ev.mvT rfl) <| Y.v (Ev.extract rfl rfl) <| Y.v (Ev.extract rfl rfl) <| Y.al H rfl rfl ?_
  clear H; intro g7 w H
  refine Y.ss 0 H rfl (cA rfl) rfl ?_
  clear H; intro w H
  refine Y.b rfl <| Y.z <| Y.q <| Y.qr <| Y.a rfl <| Y.v (Ev.neq rfl rfl) <| Y.z ?_
  refine WP.cond rfl (fun hc2 => ?_) (fun hc2 => ?_)
  · refine Y.qr <| Y.a rfl <| Y.v (Ev.build (bld_49_0 rfl)) <| Y.ss 1 H rfl (cA rfl) rfl ?_
    clear H; intro w H
    refine Y.z ?_
    refine WP.ret ⟨[_], ⟨(by exact resCellA 1 H rfl (agg_run rfl) (size_run rfl) (by rfl) rfl), trivial⟩, ?_⟩
    exact absurd hc2 (by simp)
  refine Y.k <| Y.qr <| Y.v (Y.o H 0 rfl rfl) <| Y.ss 1 H rfl (cA rfl) rfl ?_
  clear H; intro w H
  refine Y.z ?_
  refine WP.ret ⟨[_], ⟨(by exact resCellA 1 H rfl (agg_run rfl) (size_run rfl) (by rfl) rfl), trivial⟩, ?_⟩
  exact ⟨x, X, c, L, rfl, hR, hOX, H.drop Sb.out⟩
theorem make1 (g c : Nat) (X : Option Addr) (x : List Int) (i : Int) (w0 : World) (hc : w0.cell? ⟨g, 1, none⟩ = some (.slice X x.length c)) (hX : IntsAt w0 X x) (hl : x.length ≤ maxLen) :
    Calls Tryz.prog 29 #[I i, .pointer (some ⟨g, 0, none⟩)] w0 fun e w' => e = .returned (.bool (decide (i ∈ x))) ∧ Below w0.heap.size w0 w' := by
  have H := SH.refl w0
  refine Calls.ofWP Tryz.func29 rfl Tryz.results29 Tryz.ntmps29 rfl <| Y.qr <| Y.v (Ev.asB rfl) <| Y.z <| Y.qr <| Y.fa rfl rfl <| Y.v (Y.c (H.ld0 (by assumption)) rfl) ?_
  refine Y.a rfl <| OPS.call (d := some 7) rfl rfl rfl (EvC.func (fun_run rfl)) (slContains X x c i w0 hX hl) ?_
  rintro _ w ⟨rfl, hb⟩
  refine ⟨_, rfl, ?_⟩
  replace H := H.toBelow hb; clear hb
  refine Y.v (Ev.asB rfl) <| Y.z ?_
  refine WP.ret ⟨_, rfl, ?_⟩
  exact ⟨rfl, H.below⟩
def rtL (rs : List Rt) : List (Int × List Int) := rs.map fun r => (r.trk, r.nd.l)
theorem upto_succ (j : Nat) : upto (j + 1) = upto j ++ [(j : Int)] := by unfold upto; rw [List.range_succ, List.map_append]; rfl
set_option maxRecDepth 20000 in
theorem rebMake (n hd : Int) (A B C : Option Addr) (l : List Edg) (ts : List Truck) (ns : List Need) (ca cb cc : Nat) (w0 : World) (hN : NightAt w0 A B C l ts ns cc) :
    Calls Tryz.prog 11 #[.agg #[I n, .slice A l.length ca, .slice B ts.length cb, .slice C ns.length cc, I hd]] w0 fun e w' => ∃ (er : Int) (rs : List Rt) (left : List Int) (P F : Option Addr) (cp cf : Nat) (L : List Blk), e = .returned (.tuple #[.agg #[.slice P rs.length cp, .slice F left.length cf], I er]) ∧ MakeAns l ts ns hd n er (rtL rs) left ∧ left.length ≤ cf ∧ Reads L (fun w => RtsAt w P rs ∧ IntsAt w F left) ∧ SH w0 [] w' L := by
  have H := SH.refl w0
  refine Calls.ofWPc Tryz.func11 rfl Tryz.results11 Tryz.ntmps11 rfl <| Y.qr <| Y.bx (cA rfl) H ?_
  clear H; intro g1 w H
  refine Y.al H rfl rfl ?_
  clear H; intro g2 w H
  refine Y.b rfl <| Y.z <| Y.q <| Y.qr <| Y.v (Y.o H 1 rfl rfl) <| OPS.call (d := some 11) rfl rfl rfl (EvC.func (fun_run rfl)) (truckCheck n hd A B C l ts ns ca cb cc w (hN.sh H).l (hN.sh H).t (hN.sh H).n hN.c) ?_
  rintro _ w ⟨rfl, hb⟩
  refine ⟨_, rfl, ?_⟩
  replace H := H.toBelow hb; clear hb
  refine Y.b rfl <| Y.z <| Y.qr <| Y.a rfl <| Y.v (Ev.neq rfl rfl) <| Y.z ?_
  refine WP.cond rfl (fun hc2 => ?_) (fun hc2 => ?_)
  · refine Y.qr <| Y.v (Ev.build (bld_34_ (e := fun _ => .int .i64 0))) <| Y.a rfl <| Y.ss 0 H rfl (cA rfl) rfl ?_
    clear H; intro w H
    refine Y.b rfl <| Y.z ?_
    refine WP.ret ⟨[_, _], ⟨(by exact resCellA 0 H rfl (agg_run rfl) (size_run rfl) (by rfl) rfl), rfl, trivial⟩, ?_⟩
    have h : nightErr n l ts ns hd ≠ 0 := by simpa using hc2
    exact ⟨_, [], [], none, none, 0, 0, [], rfl, ⟨rfl, fun _ => ⟨rfl, rfl⟩, fun h2 => absurd h2 h⟩, Nat.le_refl _, (fun _ _ _ _ => ⟨⟨RowsAt.nil, by simp, by simp, by simp, by simp⟩, OnesAt.nil⟩), H.drop (List.nil_sublist _)⟩
  have hE : nightErr n l ts ns hd = 0 := by simpa using hc2
  obtain ⟨m, rfl, hK⟩ := nightOk_of hE
  have hnl := hK.nl
  have htl := hK.tl
  refine Y.k <| Y.qr <| Y.al H rfl rfl ?_
  clear H; intro g5 w H
  refine Y.z <| Y.q <| Y.qr <| Y.fa rfl rfl <| Y.j H 2 rfl rfl rfl <| Y.v (Y.n rfl) <| Y.a rfl <| Y.z <| WP.block <| WP.loop [6, 19, 20, 21, 22, 23, 24, 25, 26, 27, 28] (fun k e w' => ∃ (j : Nat) (F : Option Addr) (cf : Nat) (Lf : List Blk), j + k = ns.length ∧ e 19 = I j ∧ OwnS F cf j ((upto j).map I) 3 1 Lf ∧ SH w0 [] w' (⟨g5, 34, [.slice none 0 0, .slice F j cf]⟩ :: ⟨g2, 34, [.slice none 0 0, .slice none 0 0]⟩ :: ⟨g1, 28, [I m, .slice A l.length ca, .slice B ts.length cb, .slice C ns.length cc, I hd]⟩ :: Lf)) (ns.length) (⟨0, none, 0, [], by omega, rfl, OwnS.nil, H⟩) ?_
  clear H
  rintro k u w ⟨j, F, cf, Lf, hk, h19, hOF, H⟩
  refine WP.know (t := 19) h19 <| Y.qr <| Y.v (Ev.lss rfl rfl) <| Y.z <| Y.q ?_
  refine WP.cond rfl (fun hc6 => ?_) (fun hc6 => ?_)
  · have hlt : j < ns.length := by simpa using hc6
    refine Y.k <| Y.q <| WP.block <| Y.qr <| Y.a rfl <| Y.b rfl <| Y.z <| Y.r <| Y.fa rfl rfl <| Y.j H 0 rfl rfl rfl <| Y.a rfl <| OPS.buildSlice rfl rfl rfl rfl (bsl_32_1_0 rfl) H ?_
    clear H; intro g25 w H
    refine OPS.append (m := 1) (news := [I j]) (R := ⟨g25, 3, [I j]⟩ :: ⟨g5, 34, [.slice none 0 0, .slice F j cf]⟩ :: ⟨g2, 34, [.slice none 0 0, .slice none 0 0]⟩ :: ⟨g1, 28, [I m, .slice A l.length ca, .slice B ts.length cb, .slice C ns.length cc, I hd]⟩ :: []) rfl rfl rfl rfl rfl (sl_run rfl) rfl rfl hOF rfl (src_own H 0 rfl) rfl (by omega) (by unfold maxLen; omega) H (List.Perm.refl _) ?_
    clear H hOF; intro F cf Lf w hOF H
    replace hOF : OwnS F cf (j + 1) ((upto (j + 1)).map I) 3 1 Lf := by rw [upto_succ, List.map_append]; exact hOF
    simp only [List.cons_append, List.nil_append] at H
    refine Y.fa rfl rfl <| Y.ss 1 H rfl (cS rfl) rfl ?_
    clear H; intro w H
    refine Y.z <| Y.r <| Y.v (Y.p rfl rfl) <| Y.a rfl <| Y.z ?_
    exact ⟨Y.ag, k - 1, by omega, j + 1, F, cf, Lf, by omega, rfl, hOF, H.drop Sb.out⟩
  have hj : j = ns.length := by simp at hc6; omega
  subst hj
  refine WP.exit <| XB.hit <| Y.q <| Y.qr <| Y.fa rfl rfl <| Y.j H 2 rfl rfl rfl <| Y.v (Y.n rfl) <| Y.a rfl <| Y.z <| WP.block <| WP.loop [7, 8, 9, 32, 33, 34, 35, 36, 37, 38, 39, 40, 41, 42, 43, 44, 45, 46, 47, 48, 49, 50, 51, 52, 53, 54, 55, 56, 57, 58, 59, 60, 61, 62, 63, 64, 65, 66] (fun k e w' => ∃ (j : Nat) (rs : List Rt) (left : List Int) (P F : Option Addr) (cp cf : Nat) (Lr Ln Lf : List Blk), j + k = ts.length ∧ e 32 = I j ∧ MkR m l ts ns hd j (rtL rs) left ∧ rs.length ≤ j ∧ OwnS P cp rs.length (rs.flatMap rtCells) 49 2 Lr ∧ Reads Ln (fun w => ∀ r ∈ rs, IntsAt w r.nd.A r.nd.l) ∧ (∀ r ∈ rs, r.nd.l.length ≤ r.nd.cap ∧ r.nd.l.length ≤ 1000) ∧ OwnS F cf left.length (left.map I) 3 1 Lf ∧ SH w0 [] w' (⟨g5, 34, [.slice P rs.length cp, .slice F left.length cf]⟩ :: ⟨g2, 34, [.slice none 0 0, .slice none 0 0]⟩ :: ⟨g1, 28, [I m, .slice A l.length ca, .slice B ts.length cb, .slice C ns.length cc, I hd]⟩ :: (Lr ++ (Ln ++ Lf)))) (ts.length) (⟨0, [], upto ns.length, none, F, 0, cf, [], [], Lf, by omega, rfl, MkR.start, by simp, OwnS.nil, (fun _ _ _ _ r hr => by simp at hr), by simp, (by rw [upto_len]; exact hOF), (by rw [upto_len]; exact H)⟩) ?_
  clear H hOF
  rintro k2 u2 w ⟨j, rs, left, P, F, cp, cf, Lr, Ln, Lf, hk2, h32, hM, hrj, hOP, hRn, hcap, hOF, H⟩
  refine WP.know (t := 32) h32 ?_
  have hfl : left.length ≤ cf := hOF.le
  refine Y.qr <| Y.v (Ev.lss rfl rfl) <| Y.z <| Y.q ?_
  refine WP.cond rfl (fun hc11 => ?_) (fun hc11 => ?_)
  · have hlt : j < ts.length := by simpa using hc11
    obtain ⟨hnd, hin, hll⟩ := hM.facts
    refine Y.k <| Y.q <| WP.block <| Y.qr <| Y.a rfl <| Y.b rfl <| Y.z <| Y.qr <| Y.v (Y.o H 2 rfl rfl) <| Y.v (Ev.build (bld_58_0 rfl)) <| Y.al H rfl rfl ?_
    clear H; intro g8 w H
    refine Y.ss 0 H rfl (cA rfl) rfl ?_
    clear H; intro w H
    refine Y.z <| Y.qr <| Y.v (Ev.makeFunc) <| Y.fa rfl rfl <| Y.ss 0 H rfl (cF rfl) rfl ?_
    clear H; intro w H
    refine Y.z <| Y.q <| Y.qr <| Y.fa rfl rfl <| Y.j H 1 rfl rfl rfl <| Y.v (Y.n rfl) <| Y.v (Ev.leq rfl rfl) <| Y.z ?_
    refine WP.cut [43, 44] (fun _ w' => ∃ f : Nat, (f = 26 ∧ 6 < left.length ∨ f = 27 ∧ left.length ≤ 6) ∧ SH w0 [] w' (⟨g8, 58, [I m, .slice A l.length ca, .slice B ts.length cb, .slice C ns.length cc, I hd, Value.func (.func f) #[Value.pointer (some ⟨g8, 0, none⟩)] #[]]⟩ :: ⟨g5, 34, [.slice P rs.length cp, .slice F left.length cf]⟩ :: ⟨g2, 34, [.slice none 0 0, .slice none 0 0]⟩ :: ⟨g1, 28, [I m, .slice A l.length ca, .slice B ts.length cb, .slice C ns.length cc, I hd]⟩ :: (Lr ++ (Ln ++ Lf)))) ?_ ?_
    · refine WP.cond rfl (fun hc15 => ?_) (fun hc15 => ?_)
      · have h6 : left.length ≤ 6 := by have : (left.length : Int) ≤ 6 := by simpa using hc15
                                        omega
        refine Y.r <| Y.v (Ev.makeFunc) <| Y.fa rfl rfl <| Y.ss 0 H rfl (cF rfl) rfl ?_
        clear H; intro w H
        refine Y.z ?_
        first
          | exact ⟨Y.ag, _, .inr ⟨rfl, h6⟩, H⟩
          | exact ⟨Y.ag, _, .inl ⟨rfl, h6⟩, H⟩
      have h6 : 6 < left.length := by have : ¬ (left.length : Int) ≤ 6 := by simpa using hc15
                                      omega
      refine Y.k ?_
      first
        | exact ⟨Y.ag, _, .inr ⟨rfl, h6⟩, H⟩
        | exact ⟨Y.ag, _, .inl ⟨rfl, h6⟩, H⟩
    clear H
    rintro u3 w ⟨f, hf, H⟩
    have hfun : funT f = true := by rcases hf with ⟨rfl, _⟩ | ⟨rfl, _⟩ <;> rfl
    have hcall : ∀ w, SH w0 [] w (⟨g8, 58, [I m, .slice A l.length ca, .slice B ts.length cb, .slice C ns.length cc, I hd, Value.func (.func f) #[Value.pointer (some ⟨g8, 0, none⟩)] #[]]⟩ :: ⟨g5, 34, [.slice P rs.length cp, .slice F left.length cf]⟩ :: ⟨g2, 34, [.slice none 0 0, .slice none 0 0]⟩ :: ⟨g1, 28, [I m, .slice A l.length ca, .slice B ts.length cb, .slice C ns.length cc, I hd]⟩ :: (Lr ++ (Ln ++ Lf))) → Calls Tryz.prog f [.pointer (some ⟨g8, 0, none⟩), I j, .slice F left.length cf].toArray w fun e w' => ∃ (x : List Int) (X : Option Addr) (c : Nat) (L : List Blk), e = .returned (.agg #[I j, .slice X x.length c]) ∧ RouteR m l ts ns hd j left x ∧ OwnS X c x.length (x.map I) 3 1 L ∧ SH w [] w' L := fun w H => by
      have hcs : cellsAt w g8 0 [I m, .slice A l.length ca, .slice B ts.length cb, .slice C ns.length cc, I hd] := cellsAt_own H 0 rfl _ 0 (by
        intro i hi
        match i, hi with
        | 0, _ => rfl
        | 1, _ => rfl
        | 2, _ => rfl
        | 3, _ => rfl
        | 4, _ => rfl
        | i + 5, hi => exact absurd hi (by simp))
      have hFi := (hOF.ones (R := []) (H.drop (L' := Lf) Sb.out)).1
      rcases hf with ⟨rfl, h6⟩ | ⟨rfl, h6⟩
      · exact (planGreedy g8 m j hd A B C F l ts ns left ca cb cc cf w (hN.sh H) hFi hcs hK hlt hin (by omega)).mono fun e w' ⟨x, X, c, L, h1, h2, h3, h4⟩ => ⟨x, X, c, L, h1, .inr ⟨h6, h2⟩, h3, h4⟩
      · exact planExact g8 m j hd A B C F l ts ns left ca cb cc cf w (hN.sh H) hFi hcs hE hlt hnd hin h6
    refine Y.qr <| Y.fa rfl rfl <| Y.j H 0 rfl rfl rfl <| Y.a rfl <| Y.fa rfl rfl <| Y.j H 1 rfl rfl rfl <| OPS.call (d := some 50) rfl rfl rfl (EvC.clos rfl (fun_run (by assumption))) (hcall w H) ?_
    rintro _ w ⟨x, X, c, Lx, rfl, hR, hOX, Hc⟩
    refine ⟨_, rfl, ?_⟩
    replace H := SH.call (L1 := _) (Lv := []) (by rw [List.append_nil]; exact H) Hc
    clear Hc
    simp only [List.cons_append] at H
    have hxs := hR.sub
    have hxl : x.length ≤ left.length := hxs.1.length_le_of_subset hxs.2
    have hxc := hOX.le
    refine Y.al H rfl rfl ?_
    clear H; intro g9 w H
    refine Y.ss 0 H rfl (cA rfl) rfl ?_
    clear H; intro w H
    refine Y.z <| Y.qr <| Y.fa rfl rfl <| Y.j H 0 rfl rfl rfl <| Y.v (Y.n rfl) <| Y.v (Ev.gtr rfl rfl) <| Y.z ?_
    refine WP.cond rfl (fun hc18 => ?_) (fun hc18 => ?_)
    · have hx0 : x ≠ [] := by
        rintro rfl
        simp at hc18
      have hflat : (rs ++ [(⟨(j : Int), ⟨X, c, x⟩⟩ : Rt)]).flatMap rtCells = rs.flatMap rtCells ++ [I j, .slice X x.length c] := by rw [List.flatMap_append]; rfl
      obtain ⟨gf, sp, rfl, rfl, _, hcm, hcl⟩ : ∃ g sp, F = some ⟨g, 0, none⟩ ∧ Lf = [⟨g, 3, left.map I ++ sp⟩] ∧ left.length ≤ cf ∧ cf ≤ maxLen ∧ (left.map I ++ sp).length = cf * 1 := by
        rcases hOF.form with ⟨_, h, _, _⟩ | h
        · have h0 : x.length = 0 := by omega
          exact absurd (List.length_eq_zero_iff.1 h0) hx0
        · exact h
      refine Y.qr <| Y.fa rfl rfl <| Y.j H 2 rfl rfl rfl <| Y.v (Y.o H 0 rfl rfl) <| OPS.buildSlice rfl rfl rfl rfl (bsl_31_1_0 rfl) H ?_
      clear H; intro g58 w H
      refine OPS.append (m := 1) (news := [I j, .slice X x.length c]) (R := ⟨g58, 49, [I j, .slice X x.length c]⟩ :: ⟨g9, 49, [I j, .slice X x.length c]⟩ :: ⟨g8, 58, [I m, .slice A l.length ca, .slice B ts.length cb, .slice C ns.length cc, I hd, Value.func (.func f) #[Value.pointer (some ⟨g8, 0, none⟩)] #[]]⟩ :: ⟨g5, 34, [.slice P rs.length cp, .slice (some ⟨gf, 0, none⟩) left.length cf]⟩ :: ⟨g2, 34, [.slice none 0 0, .slice none 0 0]⟩ :: ⟨g1, 28, [I m, .slice A l.length ca, .slice B ts.length cb, .slice C ns.length cc, I hd]⟩ :: (Ln ++ [⟨gf, 3, left.map I ++ sp⟩] ++ Lx)) rfl rfl rfl rfl rfl (sl_run rfl) rfl rfl hOP rfl (src_own H 0 rfl) rfl (by omega) (by unfold maxLen; omega) H (by exact permBy fun f => by simp <;> omega) ?_
      clear H hOP; intro P cp Lr w hOP H
      rw [← hflat] at hOP
      simp only [List.cons_append] at H
      have hlp : (rs ++ [(⟨(j : Int), ⟨X, c, x⟩⟩ : Rt)]).length = rs.length + 1 := by simp
      refine Y.fa rfl rfl <| Y.ss 3 H rfl (cS rfl) rfl ?_
      clear H; intro w H
      refine Y.z ?_
      have HA : SH w0 [] w ((⟨g9, 49, [I j, .slice X x.length c]⟩ :: ⟨g5, 34, [.slice P (rs.length + 1) cp, .slice (some ⟨gf, 0, none⟩) left.length cf]⟩ :: ⟨g2, 34, [.slice none 0 0, .slice none 0 0]⟩ :: ⟨g1, 28, [I m, .slice A l.length ca, .slice B ts.length cb, .slice C ns.length cc, I hd]⟩ :: (Lr ++ (Ln ++ Lx))) ++ [⟨gf, 3, left.map I ++ sp⟩]) :=
        (H.drop (List.Sublist.cons _ (List.Sublist.cons_cons _ (List.Sublist.cons _ (List.Sublist.refl _))))).perm (by exact permBy fun f => by simp <;> omega)
      clear H
      have hdel : ∀ (cs : List Value) (w2 : World), SH w [gf] w2 [⟨gf, 3, cs⟩] → ∀ i : Int, Calls Tryz.prog 29 ([(I i : Value)] ++ [Value.pointer (some ⟨g9, 0, none⟩)]).toArray w2 fun e w' => e = .returned (.bool (decide (i ∈ x))) ∧ Below w2.heap.size w2 w' := fun cs w2 h2 i => by
        have H2 := SH.call HA h2
        exact make1 g9 c X x i w2 (H2.ldL 0 rfl 1 rfl) (hOX.ones (R := []) (H2.drop (L' := Lx) Sb.out)).1 (by unfold maxLen; omega)
      have hdc := slDelete gf left sp cf 29 [Value.pointer (some ⟨g9, 0, none⟩)] (fun i => decide (i ∈ x)) w (HA.restart (List.sublist_append_right _ _)) (by omega) hfl rfl hdel
      have H := HA
      refine Y.r <| Y.fa rfl rfl <| Y.j H 1 rfl rfl rfl <| Y.v (Ev.makeFunc) <| OPS.call (d := some 64) rfl rfl rfl (EvC.func (fun_run rfl)) (hdc) ?_
      rintro _ w ⟨sp2, rfl, hl2, Hc⟩
      refine ⟨_, rfl, ?_⟩
      replace H := SH.call HA Hc
      clear Hc HA hdel hdc
      simp only [List.cons_append] at H
      refine Y.fa rfl rfl <| Y.ss 1 H rfl (cS rfl) rfl ?_
      clear H; intro w H
      refine Y.z ?_
      have hrd : ∃ (rs' : List Rt) (left' : List Int) (P' F' : Option Addr) (cp' cf' : Nat) (Lr' Ln' Lf' : List Blk), MkR m l ts ns hd (j + 1) (rtL rs') left' ∧ rs'.length ≤ j + 1 ∧ OwnS P' cp' rs'.length (rs'.flatMap rtCells) 49 2 Lr' ∧ Reads Ln' (fun w => ∀ r ∈ rs', IntsAt w r.nd.A r.nd.l) ∧ (∀ r ∈ rs', r.nd.l.length ≤ r.nd.cap ∧ r.nd.l.length ≤ 1000) ∧ OwnS F' cf' left'.length (left'.map I) 3 1 Lf' ∧ SH w0 [] w (⟨g5, 34, [.slice P' rs'.length cp', .slice F' left'.length cf']⟩ :: ⟨g2, 34, [.slice none 0 0, .slice none 0 0]⟩ :: ⟨g1, 28, [I m, .slice A l.length ca, .slice B ts.length cb, .slice C ns.length cc, I hd]⟩ :: (Lr' ++ (Ln' ++ Lf'))) :=
        ⟨rs ++ [⟨j, ⟨X, c, x⟩⟩], left.filter fun i => !decide (i ∈ x), P, some ⟨gf, 0, none⟩, cp, cf, Lr, Ln ++ Lx, [⟨gf, 3, (left.filter fun i => !decide (i ∈ x)).map I ++ sp2⟩], by
          have := MkR.add hM hR hx0
          unfold rtL
          rw [List.map_append]
          exact this, by rw [hlp]; omega, by rw [hlp]; exact hOP, (fun w0 S w H r hr => by
          rcases List.mem_append.1 hr with hr | hr
          · exact hRn.at H (List.sublist_append_left _ _) r hr
          · simp at hr; subst hr
            exact (hOX.ones (R := []) (H.drop (List.sublist_append_right _ _))).1), (fun r hr => by
          rcases List.mem_append.1 hr with hr | hr
          · exact hcap r hr
          · simp at hr; subst hr
            exact ⟨hxc, by show x.length ≤ 1000; omega⟩), ⟨by simp, .inr ⟨gf, sp2, rfl, rfl, by have := List.length_filter_le (fun i => !decide (i ∈ x)) left; omega, hcm, by
            rw [List.length_append, List.length_map] at hcl ⊢
            omega⟩⟩, by
          rw [hlp]
          exact (Y.d1 H).perm (by exact permBy fun f => by simp <;> omega)⟩
      refine Y.r <| Y.v (Y.p rfl rfl) <| Y.a rfl <| Y.z ?_
      obtain ⟨rs', left', P', F', cp', cf', Lr', Ln', Lf', h1, h2, h3, h4, h5, h6', h7⟩ := hrd
      exact ⟨Y.ag, k2 - 1, by omega, j + 1, rs', left', P', F', cp', cf', Lr', Ln', Lf', by omega, rfl, h1, h2, h3, h4, h5, h6', h7⟩
    have hx0 : x = [] := by
      cases x with
      | nil => rfl
      | cons a t => simp at hc18
    subst hx0
    have hrd : ∃ (rs' : List Rt) (left' : List Int) (P' F' : Option Addr) (cp' cf' : Nat) (Lr' Ln' Lf' : List Blk), MkR m l ts ns hd (j + 1) (rtL rs') left' ∧ rs'.length ≤ j + 1 ∧ OwnS P' cp' rs'.length (rs'.flatMap rtCells) 49 2 Lr' ∧ Reads Ln' (fun w => ∀ r ∈ rs', IntsAt w r.nd.A r.nd.l) ∧ (∀ r ∈ rs', r.nd.l.length ≤ r.nd.cap ∧ r.nd.l.length ≤ 1000) ∧ OwnS F' cf' left'.length (left'.map I) 3 1 Lf' ∧ SH w0 [] w (⟨g5, 34, [.slice P' rs'.length cp', .slice F' left'.length cf']⟩ :: ⟨g2, 34, [.slice none 0 0, .slice none 0 0]⟩ :: ⟨g1, 28, [I m, .slice A l.length ca, .slice B ts.length cb, .slice C ns.length cc, I hd]⟩ :: (Lr' ++ (Ln' ++ Lf'))) :=
      ⟨rs, left, P, F, cp, cf, Lr, Ln, Lf, MkR.skip hM hR, by omega, hOP, hRn, hcap, hOF, H.drop (by refine List.Sublist.cons _ (List.Sublist.cons _ ?_); exact Sb.out)⟩
    refine Y.k <| Y.r <| Y.v (Y.p rfl rfl) <| Y.a rfl <| Y.z ?_
    obtain ⟨rs', left', P', F', cp', cf', Lr', Ln', Lf', h1, h2, h3, h4, h5, h6', h7⟩ := hrd
    exact ⟨Y.ag, k2 - 1, by omega, j + 1, rs', left', P', F', cp', cf', Lr', Ln', Lf', by omega, rfl, h1, h2, h3, h4, h5, h6', h7⟩
  refine WP.exit <| XB.hit <| Y.qr <| Y.v (Y.o H 0 rfl rfl) <| Y.ss 1 H rfl (cA rfl) rfl ?_
  clear H; intro w H
  refine Y.b rfl <| Y.z ?_
  refine WP.ret ⟨[_, _], ⟨(by exact resCellA 1 H rfl (agg_run rfl) (size_run rfl) (by rfl) rfl), rfl, trivial⟩, ?_⟩
  have hj : j = ts.length := by simp at hc11; omega
  subst hj
  refine ⟨_, rs, left, P, F, cp, cf, Lr ++ (Ln ++ Lf), rfl, ⟨hE.symm, fun h => absurd rfl h, fun _ => ⟨m, rfl, hM⟩⟩, hfl, (fun w0 S w H => ⟨⟨(hOP.rows (R := []) rtCells_len (by omega) (H.drop (List.sublist_append_left _ _))).1, hRn.at H ((List.sublist_append_left Ln Lf).trans (List.sublist_append_right _ _)), fun r hr => (hcap r hr).1, fun r hr => (hcap r hr).2, by omega⟩, (hOF.ones (R := []) (H.drop ((List.sublist_append_right Ln Lf).trans (List.sublist_append_right _ _)))).1⟩), H.drop Sb.out⟩
end Go.Proofs.YtgcokllbophkkaaGreat
namespace Go.Proofs.YtgcokllbophkkaaGreat
open Go Go.W Go.RowKit
set_option maxRecDepth 20000 in
theorem r45Make (n hd : Int) (A B C : Option Addr) (l : List Edg) (ts : List Truck) (ns : List Need) (ca cb cc : Nat) (w0 : World) (hN : NightAt w0 A B C l ts ns cc) :
    Calls Tryz.prog 12 #[.agg #[I n, .slice A l.length ca, .slice B ts.length cb, .slice C ns.length cc, I hd]] w0 fun e w' => ∃ (er : Int) (rs : List Rt) (left : List Int) (P F : Option Addr) (cp cf : Nat) (L : List Blk), e = .returned (.tuple #[.agg #[.slice P rs.length cp, .slice F left.length cf], I er]) ∧ MakeAns l ts ns hd n er (rtL rs) left ∧ (rs.length ≤ 1000 ∧ left.length ≤ 1000 ∧ ∀ r ∈ rs, r.nd.l.length ≤ 1000) ∧ Reads L (fun w => RowsAt 2 rtCells w P rs ∧ (∀ r ∈ rs, IntsAt w r.nd.A r.nd.l) ∧ IntsAt w F left) ∧ SH w0 [] w' L := by
  have H := SH.refl w0
  refine Calls.ofWPc Tryz.func12 rfl Tryz.results12 Tryz.ntmps12 rfl ?_
  refine WP.seq ?_
  refine WP.region ?_
  refine OPS.box rfl rfl rfl rfl (cA rfl) H ?_
  clear H; intro g1 w H
  refine OPS.alloc rfl rfl rfl rfl (zero_run rfl) rfl H ?_
  clear H; intro g2 w H
  refine OPS.val rfl rfl rfl (Ev.asI rfl) ?_
  refine OPS.nil ?_
  refine WP.seq ?_
  refine WP.seq ?_
  refine WP.region ?_
  refine OPS.val rfl rfl rfl ((by exact Ev.loadO 1 H rfl (agg_run rfl) (size_run rfl) (by rfl) rfl)) ?_
  refine OPS.call (d := some 11) rfl rfl rfl (EvC.func (fun_run rfl)) (r42Check n hd A B C l ts ns ca cb cc w (hN.sh H).l (hN.sh H).t (hN.sh H).n) ?_
  rintro _ w ⟨rfl, hb⟩
  refine ⟨_, rfl, ?_⟩
  replace H := H.toBelow hb; clear hb
  refine OPS.val rfl rfl rfl (Ev.asI rfl) ?_
  refine OPS.nil ?_
  refine WP.seq ?_
  refine WP.region ?_
  refine OPS.val rfl rfl rfl (Ev.mvI rfl) ?_
  refine OPS.val rfl rfl rfl (Ev.neq rfl rfl) ?_
  refine OPS.nil ?_
  refine WP.cond rfl (fun hc2 => ?_) (fun hc2 => ?_)
  · refine WP.seq ?_
    refine WP.region ?_
    refine OPS.val rfl rfl rfl (Ev.build (bld_34_ (e := fun _ => .int .i64 0))) ?_
    refine OPS.val rfl rfl rfl (Ev.mvI rfl) ?_
    refine OPS.store 0 _ rfl rfl rfl (size_run rfl) rfl (cA rfl) rfl rfl H rfl (by simp) ?_
    clear H; intro w H; try simp only [List.set_cons_zero, List.set_cons_succ, putL, Nat.zero_add] at H
    refine OPS.val rfl rfl rfl (Ev.asI rfl) ?_
    refine OPS.nil ?_
    refine WP.ret ⟨[_, _], ⟨(by exact resCellA 0 H rfl (agg_run rfl) (size_run rfl) (by rfl) rfl), rfl, trivial⟩, ?_⟩
    have h : nightErr n l ts ns hd ≠ 0 := by simpa using hc2
    exact ⟨_, [], [], none, none, 0, 0, [], rfl, ⟨rfl, fun _ => ⟨rfl, rfl⟩, fun h2 => absurd h2 h⟩, by simp, (fun _ _ _ _ => ⟨RowsAt.nil, by simp, OnesAt.nil⟩), H.drop (List.nil_sublist _)⟩
  have hE : nightErr n l ts ns hd = 0 := by simpa using hc2
  obtain ⟨m, rfl, hK⟩ := nightOk_of hE
  have hnl := hK.nl
  have htl := hK.tl
  refine WP.skip ?_
  refine WP.seq ?_
  refine WP.region ?_
  refine OPS.buildSlice rfl rfl rfl rfl (bsl_32_0_ (e := fun _ => .int .i64 0)) H ?_
  clear H; intro g16 w H
  refine OPS.val rfl rfl rfl (Ev.asS rfl) ?_
  refine OPS.nil ?_
  refine WP.seq ?_
  refine WP.seq ?_
  refine WP.region ?_
  refine OPS.val rfl rfl rfl (Ev.asI rfl) ?_
  refine OPS.nil ?_
  refine WP.block ?_
  refine WP.loop [5, 6, 17, 18, 19, 20, 21, 22, 23, 24, 25, 26, 27] (fun k e w' => ∃ (j : Nat) (F : Option Addr) (cf : Nat) (Lf : List Blk), j + k = ns.length ∧ e 6 = I j ∧ e 5 = .slice F j cf ∧ OwnS F cf j ((upto j).map I) 3 1 Lf ∧ SH w0 [] w' (⟨g2, 34, [.slice none 0 0, .slice none 0 0]⟩ :: ⟨g1, 28, [I m, .slice A l.length ca, .slice B ts.length cb, .slice C ns.length cc, I hd]⟩ :: Lf)) (ns.length) (⟨0, some ⟨g16, 0, none⟩, 0, [⟨g16, 3, []⟩], by omega, rfl, rfl, OwnS.mt, H.perm (by exact permBy fun f => by simp <;> omega)⟩) ?_
  clear H
  rintro k u w ⟨j, F, cf, Lf, hk, h6, h5, hOF, H⟩
  refine WP.know (t := 6) h6 (WP.know (t := 5) h5 ?_)
  refine WP.seq ?_
  refine WP.seq ?_
  refine WP.region ?_
  refine OPS.val rfl rfl rfl (Ev.mvI rfl) ?_
  refine OPS.val rfl rfl rfl (Ev.fieldAddr (fld_run rfl) rfl) ?_
  refine OPS.val rfl rfl rfl (Ev.load1 (agg_run rfl) rfl (by exact H.ldL 1 rfl _ rfl)) ?_
  refine OPS.val rfl rfl rfl (Ev.len (el_run rfl) rfl) ?_
  refine OPS.val rfl rfl rfl (Ev.lss rfl rfl) ?_
  refine OPS.nil ?_
  refine WP.cond rfl (fun hc6 => ?_) (fun hc6 => ?_)
  · have hlt : j < ns.length := by simpa using hc6
    refine WP.skip ?_
    refine WP.seq ?_
    refine WP.block ?_
    refine WP.region ?_
    refine OPS.val rfl rfl rfl (Ev.mvS rfl) ?_
    refine OPS.val rfl rfl rfl (Ev.mvI rfl) ?_
    refine OPS.buildSlice rfl rfl rfl rfl (bsl_32_1_0 rfl) H ?_
    clear H; intro g26 w H
    refine OPS.append (m := 1) (news := [I j]) (R := ⟨g26, 3, [I j]⟩ :: ⟨g2, 34, [.slice none 0 0, .slice none 0 0]⟩ :: ⟨g1, 28, [I m, .slice A l.length ca, .slice B ts.length cb, .slice C ns.length cc, I hd]⟩ :: []) rfl rfl rfl rfl rfl (sl_run rfl) rfl rfl hOF rfl (src_own H 0 rfl) rfl (by omega) (by unfold maxLen; omega) H (List.Perm.refl _) ?_
    clear H hOF; intro F cf Lf w hOF H
    replace hOF : OwnS F cf (j + 1) ((upto (j + 1)).map I) 3 1 Lf := by rw [upto_succ, List.map_append]; exact hOF
    simp only [List.cons_append, List.nil_append] at H
    refine OPS.val rfl rfl rfl (Ev.asS rfl) ?_
    refine OPS.nil ?_
    refine WP.region ?_
    refine OPS.val rfl rfl rfl (Ev.mvI rfl) ?_
    refine OPS.val rfl rfl rfl (Ev.add rfl rfl (by unfold fits; omega)) ?_
    refine OPS.val rfl rfl rfl (Ev.asI rfl) ?_
    refine OPS.nil ?_
    exact ⟨(by repeat (first | exact Agree.refl _ _ | exact Agree.mix _ _ _ | refine Agree.upd rfl ?_ | refine Agree.mix2 rfl ?_)), k - 1, by omega, j + 1, F, cf, Lf, by omega, rfl, rfl, hOF, H.drop Sb.out⟩
  have hj : j = ns.length := by simp at hc6; omega
  subst hj
  refine WP.exit ?_
  refine XB.hit ?_
  refine WP.seq ?_
  refine WP.region ?_
  refine OPS.val rfl rfl rfl (Ev.build (bld_34_ (e := fun _ => .int .i64 0))) ?_
  refine OPS.alloc rfl rfl rfl rfl (zero_run rfl) rfl H ?_
  clear H; intro g7 w H
  refine OPS.store 0 _ rfl rfl rfl (size_run rfl) rfl (cA rfl) rfl rfl H rfl (by simp) ?_
  clear H; intro w H; try simp only [List.set_cons_zero, List.set_cons_succ, putL, Nat.zero_add] at H
  refine OPS.nil ?_
  refine WP.seq ?_
  refine WP.seq ?_
  refine WP.region ?_
  refine OPS.val rfl rfl rfl (Ev.asI rfl) ?_
  refine OPS.nil ?_
  refine WP.block ?_
  refine WP.loop [5, 8, 9, 29, 30, 31, 32, 33, 34, 35, 36, 37, 38, 39, 40, 41, 42, 43, 44, 45, 46, 47, 48, 49, 50, 51, 52, 53, 54, 55, 56, 57, 58, 59, 60, 61, 62, 63] (fun k e w' => ∃ (j : Nat) (rs : List Rt) (left : List Int) (P F : Option Addr) (cp cf : Nat) (Lr Ln Lf : List Blk), j + k = ts.length ∧ e 8 = I j ∧ e 5 = .slice F left.length cf ∧ MkR m l ts ns hd j (rtL rs) left ∧ rs.length ≤ j ∧ OwnS P cp rs.length (rs.flatMap rtCells) 49 2 Lr ∧ Reads Ln (fun w => ∀ r ∈ rs, IntsAt w r.nd.A r.nd.l) ∧ (∀ r ∈ rs, r.nd.l.length ≤ 1000) ∧ OwnS F cf left.length (left.map I) 3 1 Lf ∧ SH w0 [] w' (⟨g7, 34, [.slice P rs.length cp, .slice none 0 0]⟩ :: ⟨g2, 34, [.slice none 0 0, .slice none 0 0]⟩ :: ⟨g1, 28, [I m, .slice A l.length ca, .slice B ts.length cb, .slice C ns.length cc, I hd]⟩ :: (Lr ++ (Ln ++ Lf)))) (ts.length) (⟨0, [], upto ns.length, none, F, 0, cf, [], [], Lf, by omega, rfl, (by rw [upto_len]; rfl), MkR.start, by simp, OwnS.nil, (fun _ _ _ _ r hr => by simp at hr), by simp, (by rw [upto_len]; exact hOF), H⟩) ?_
  clear H hOF
  rintro k2 u2 w ⟨j, rs, left, P, F, cp, cf, Lr, Ln, Lf, hk2, h8, h5, hM, hrj, hOP, hRn, hcap, hOF, H⟩
  refine WP.know (t := 8) h8 (WP.know (t := 5) h5 ?_)
  obtain ⟨hnd, hin, hll⟩ := hM.facts
  refine WP.seq ?_
  refine WP.seq ?_
  refine WP.region ?_
  refine OPS.val rfl rfl rfl (Ev.mvI rfl) ?_
  refine OPS.val rfl rfl rfl (Ev.fieldAddr (fld_run rfl) rfl) ?_
  refine OPS.val rfl rfl rfl (Ev.load1 (agg_run rfl) rfl (by exact H.ldL 2 rfl _ rfl)) ?_
  refine OPS.val rfl rfl rfl (Ev.len (el_run rfl) rfl) ?_
  refine OPS.val rfl rfl rfl (Ev.lss rfl rfl) ?_
  refine OPS.nil ?_
  refine WP.cond rfl (fun hc11 => ?_) (fun hc11 => ?_)
  · have hlt : j < ts.length := by simpa using hc11
    refine WP.skip ?_
    refine WP.seq ?_
    refine WP.block ?_
    refine WP.seq ?_
    refine WP.region ?_
    refine OPS.val rfl rfl rfl ((by exact Ev.loadO 2 H rfl (agg_run rfl) (size_run rfl) (by rfl) rfl)) ?_
    refine OPS.val rfl rfl rfl (Ev.mvI rfl) ?_
    refine OPS.val rfl rfl rfl (Ev.mvS rfl) ?_
    refine OPS.call (d := some 39) rfl rfl rfl (EvC.func (fun_run rfl)) (r45Greedy m j hd A B C F l ts ns left ca cb cc cf w (hN.sh H) (hOF.ones (R := []) (H.drop (L' := Lf) Sb.out)).1 hK hlt hin (by omega)) ?_
    rintro _ w ⟨x, X, c, Lx, rfl, hgx, hOX, Hc⟩
    refine ⟨_, rfl, ?_⟩
    replace H := SH.call (L1 := _) (Lv := []) (by rw [List.append_nil]; exact H) Hc
    clear Hc
    simp only [List.cons_append] at H
    have hRx : Reads Lx (fun w => IntsAt w X x) := fun w0 S w H => (hOX.ones (R := []) H).1
    refine OPS.alloc rfl rfl rfl rfl (zero_run rfl) rfl H ?_
    clear H; intro g9 w H
    refine OPS.store 0 _ rfl rfl rfl (size_run rfl) rfl (cA rfl) rfl rfl H rfl (by simp) ?_
    clear H; intro w H; try simp only [List.set_cons_zero, List.set_cons_succ, putL, Nat.zero_add] at H
    refine OPS.nil ?_
    refine WP.seq ?_
    refine WP.seq ?_
    refine WP.region ?_
    refine OPS.val rfl rfl rfl (Ev.mvS rfl) ?_
    refine OPS.val rfl rfl rfl (Ev.len (el_run rfl) rfl) ?_
    refine OPS.val rfl rfl rfl (Ev.leq rfl rfl) ?_
    refine OPS.nil ?_
    refine WP.cut [43, 44, 45, 46, 47, 48, 49] (fun _ w' => ∃ (x : List Int) (X : Option Addr) (c : Nat) (Lx : List Blk), RouteR m l ts ns hd j left x ∧ Reads Lx (fun w => IntsAt w X x) ∧ SH w0 [] w' (⟨g9, 49, [I j, .slice X x.length c]⟩ :: ⟨g7, 34, [.slice P rs.length cp, .slice none 0 0]⟩ :: ⟨g2, 34, [.slice none 0 0, .slice none 0 0]⟩ :: ⟨g1, 28, [I m, .slice A l.length ca, .slice B ts.length cb, .slice C ns.length cc, I hd]⟩ :: (Lr ++ (Ln ++ Lf)) ++ Lx)) ?_ ?_
    · refine WP.cond rfl (fun hc14 => ?_) (fun hc14 => ?_)
      · have h6 : left.length ≤ 6 := by have : (left.length : Int) ≤ 6 := by simpa using hc14
                                        omega
        refine WP.region ?_
        refine OPS.val rfl rfl rfl ((by exact Ev.loadO 3 H rfl (agg_run rfl) (size_run rfl) (by rfl) rfl)) ?_
        refine OPS.val rfl rfl rfl (Ev.mvI rfl) ?_
        refine OPS.val rfl rfl rfl (Ev.mvS rfl) ?_
        refine OPS.call (d := some 47) rfl rfl rfl (EvC.func (fun_run rfl)) (rMost m hd j A B C F l ts ns left ca cb cc cf w (hN.sh H).l (hN.sh H).t (hN.sh H).n (hOF.ones (R := []) (H.drop (L' := Lf) Sb.out)).1 (by omega)) ?_
        rintro _ w ⟨er, r0, y, Y, cy, Ly, rfl, hA, hRy, Hc⟩
        refine ⟨_, rfl, ?_⟩
        replace H := SH.call (L1 := _) (Lv := []) (by rw [List.append_nil]; exact H) Hc
        clear Hc
        simp only [List.cons_append] at H
        obtain ⟨rfl, rfl, hR⟩ := hA.route hE hlt hnd hin h6
        refine OPS.val rfl rfl rfl (Ev.mvT rfl) ?_
        refine OPS.val rfl rfl rfl (Ev.extract rfl rfl) ?_
        refine OPS.val rfl rfl rfl (Ev.extract rfl rfl) ?_
        refine OPS.store 0 _ rfl rfl rfl (size_run rfl) rfl (cA rfl) rfl rfl H rfl (by simp) ?_
        clear H; intro w H; try simp only [List.set_cons_zero, List.set_cons_succ, putL, Nat.zero_add] at H
        refine OPS.nil ?_
        have hlf : ∃ (x : List Int) (X : Option Addr) (c : Nat) (Lx : List Blk), RouteR m l ts ns hd j left x ∧ Reads Lx (fun w => IntsAt w X x) ∧ SH w0 [] w (⟨g9, 49, [I j, .slice X x.length c]⟩ :: ⟨g7, 34, [.slice P rs.length cp, .slice none 0 0]⟩ :: ⟨g2, 34, [.slice none 0 0, .slice none 0 0]⟩ :: ⟨g1, 28, [I m, .slice A l.length ca, .slice B ts.length cb, .slice C ns.length cc, I hd]⟩ :: (Lr ++ (Ln ++ Lf)) ++ Lx) := ⟨y, Y, cy, Ly, hR, hRy, H.drop (by simp only [List.cons_append]; exact Sb.out)⟩
        exact ⟨(by repeat (first | exact Agree.refl _ _ | exact Agree.mix _ _ _ | refine Agree.upd rfl ?_ | refine Agree.mix2 rfl ?_)), hlf⟩
      have h6 : 6 < left.length := by have : ¬ (left.length : Int) ≤ 6 := by simpa using hc14
                                      omega
      have hlf : ∃ (x : List Int) (X : Option Addr) (c : Nat) (Lx : List Blk), RouteR m l ts ns hd j left x ∧ Reads Lx (fun w => IntsAt w X x) ∧ SH w0 [] w (⟨g9, 49, [I j, .slice X x.length c]⟩ :: ⟨g7, 34, [.slice P rs.length cp, .slice none 0 0]⟩ :: ⟨g2, 34, [.slice none 0 0, .slice none 0 0]⟩ :: ⟨g1, 28, [I m, .slice A l.length ca, .slice B ts.length cb, .slice C ns.length cc, I hd]⟩ :: (Lr ++ (Ln ++ Lf)) ++ Lx) := ⟨x, X, c, Lx, .inr ⟨h6, hgx⟩, hRx, H⟩
      refine WP.skip ?_
      exact ⟨(by repeat (first | exact Agree.refl _ _ | exact Agree.mix _ _ _ | refine Agree.upd rfl ?_ | refine Agree.mix2 rfl ?_)), hlf⟩
    clear H hRx hgx hOX
    rintro u3 w ⟨x, X, c, Lx, hR, hRx, H⟩
    have hxs := hR.sub
    have hxl : x.length ≤ left.length := hxs.1.length_le_of_subset hxs.2
    simp only [List.cons_append] at H
    refine WP.seq ?_
    refine WP.region ?_
    refine OPS.val rfl rfl rfl (Ev.fieldAddr (fld_run rfl) rfl) ?_
    refine OPS.val rfl rfl rfl (Ev.load1 (agg_run rfl) rfl (by exact H.ldL 0 rfl _ rfl)) ?_
    refine OPS.val rfl rfl rfl (Ev.len (el_run rfl) rfl) ?_
    refine OPS.val rfl rfl rfl (Ev.gtr rfl rfl) ?_
    refine OPS.nil ?_
    refine WP.cond rfl (fun hc16 => ?_) (fun hc16 => ?_)
    · have hx0 : x ≠ [] := by
        rintro rfl
        simp at hc16
      have hflat : (rs ++ [(⟨(j : Int), ⟨X, c, x⟩⟩ : Rt)]).flatMap rtCells = rs.flatMap rtCells ++ [I j, .slice X x.length c] := by rw [List.flatMap_append]; rfl
      have hlp : (rs ++ [(⟨(j : Int), ⟨X, c, x⟩⟩ : Rt)]).length = rs.length + 1 := by simp
      refine WP.seq ?_
      refine WP.region ?_
      refine OPS.val rfl rfl rfl (Ev.fieldAddr (fld_run rfl) rfl) ?_
      refine OPS.val rfl rfl rfl (Ev.load1 (agg_run rfl) rfl (by exact H.ldL 1 rfl _ rfl)) ?_
      refine OPS.val rfl rfl rfl ((by exact Ev.loadO 0 H rfl (agg_run rfl) (size_run rfl) (by rfl) rfl)) ?_
      refine OPS.buildSlice rfl rfl rfl rfl (bsl_31_1_0 rfl) H ?_
      clear H; intro g57 w H
      refine OPS.append (m := 1) (news := [I j, .slice X x.length c]) (R := ⟨g57, 49, [I j, .slice X x.length c]⟩ :: ⟨g9, 49, [I j, .slice X x.length c]⟩ :: ⟨g7, 34, [.slice P rs.length cp, .slice none 0 0]⟩ :: ⟨g2, 34, [.slice none 0 0, .slice none 0 0]⟩ :: ⟨g1, 28, [I m, .slice A l.length ca, .slice B ts.length cb, .slice C ns.length cc, I hd]⟩ :: ((Ln ++ Lf) ++ Lx)) rfl rfl rfl rfl rfl (sl_run rfl) rfl rfl hOP rfl (src_own H 0 rfl) rfl (by omega) (by unfold maxLen; omega) H (by exact permBy fun f => by simp <;> omega) ?_
      clear H hOP; intro P cp Lr w hOP H
      rw [← hflat] at hOP
      simp only [List.cons_append] at H
      refine OPS.val rfl rfl rfl (Ev.fieldAddr (fld_run rfl) rfl) ?_
      refine OPS.store 2 _ rfl rfl rfl (size_run rfl) rfl (cS rfl) rfl rfl H rfl (by simp) ?_
      clear H; intro w H; try simp only [List.set_cons_zero, List.set_cons_succ, putL, Nat.zero_add] at H
      refine OPS.nil ?_
      refine WP.region ?_
      refine OPS.val rfl rfl rfl (Ev.mvS rfl) ?_
      refine OPS.val rfl rfl rfl (Ev.fieldAddr (fld_run rfl) rfl) ?_
      refine OPS.val rfl rfl rfl (Ev.load1 (agg_run rfl) rfl (by exact H.ldL 1 rfl _ rfl)) ?_
      refine OPS.call (d := some 63) rfl rfl rfl (EvC.func (fun_run rfl)) (r45Without F X left x cf c w (hOF.ones (R := []) (H.drop (L' := Lf) Sb.out)).1 (hRx.at H Sb.out) (by omega) (by omega)) ?_
      rintro _ w ⟨V, cv, Lv, rfl, hOV, Hc⟩
      refine ⟨_, rfl, ?_⟩
      replace H := SH.call (L1 := _) (Lv := []) (by rw [List.append_nil]; exact H) Hc
      clear Hc
      simp only [List.cons_append] at H
      refine OPS.val rfl rfl rfl (Ev.asS rfl) ?_
      refine OPS.nil ?_
      have hrd : ∃ (rs' : List Rt) (left' : List Int) (P' F' : Option Addr) (cp' cf' : Nat) (Lr' Ln' Lf' : List Blk), .slice V (withoutL left x).length cv = Value.slice F' left'.length cf' ∧ MkR m l ts ns hd (j + 1) (rtL rs') left' ∧ rs'.length ≤ j + 1 ∧ OwnS P' cp' rs'.length (rs'.flatMap rtCells) 49 2 Lr' ∧ Reads Ln' (fun w => ∀ r ∈ rs', IntsAt w r.nd.A r.nd.l) ∧ (∀ r ∈ rs', r.nd.l.length ≤ 1000) ∧ OwnS F' cf' left'.length (left'.map I) 3 1 Lf' ∧ SH w0 [] w (⟨g7, 34, [.slice P' rs'.length cp', .slice none 0 0]⟩ :: ⟨g2, 34, [.slice none 0 0, .slice none 0 0]⟩ :: ⟨g1, 28, [I m, .slice A l.length ca, .slice B ts.length cb, .slice C ns.length cc, I hd]⟩ :: (Lr' ++ (Ln' ++ Lf'))) :=
        ⟨rs ++ [⟨j, ⟨X, c, x⟩⟩], withoutL left x, P, V, cp, cv, Lr, Ln ++ Lx, Lv, rfl, by
          have := MkR.add hM hR hx0
          unfold rtL
          rw [List.map_append]
          exact this, by rw [hlp]; omega, by rw [hlp]; exact hOP, (fun w0 S w H r hr => by
          rcases List.mem_append.1 hr with hr | hr
          · exact hRn.at H (List.sublist_append_left _ _) r hr
          · simp at hr; subst hr
            exact hRx.at H (List.sublist_append_right _ _)), (fun r hr => by
          rcases List.mem_append.1 hr with hr | hr
          · exact hcap r hr
          · simp at hr; subst hr
            show x.length ≤ 1000; omega), hOV, by
          rw [hlp]
          exact (H.perm (L' := ⟨g57, 49, [I j, .slice X x.length c]⟩ :: ⟨g9, 49, [I j, .slice X x.length c]⟩ :: ⟨g7, 34, [.slice P (rs.length + 1) cp, .slice none 0 0]⟩ :: ⟨g2, 34, [.slice none 0 0, .slice none 0 0]⟩ :: ⟨g1, 28, [I m, .slice A l.length ca, .slice B ts.length cb, .slice C ns.length cc, I hd]⟩ :: (Lf ++ (Lr ++ ((Ln ++ Lx) ++ Lv)))) (by exact permBy fun f => by simp <;> omega)).drop (List.Sublist.cons _ (List.Sublist.cons _ (by refine List.Sublist.cons_cons _ (List.Sublist.cons_cons _ (List.Sublist.cons_cons _ ?_)); exact List.sublist_append_right _ _)))⟩
      refine WP.region ?_
      refine OPS.val rfl rfl rfl (Ev.mvI rfl) ?_
      refine OPS.val rfl rfl rfl (Ev.add rfl rfl (by unfold fits; omega)) ?_
      refine OPS.val rfl rfl rfl (Ev.asI rfl) ?_
      refine OPS.nil ?_
      obtain ⟨rs', left', P', F', cp', cf', Lr', Ln', Lf', h0, h1, h2, h3, h4, h5', h6', h7⟩ := hrd
      exact ⟨(by repeat (first | exact Agree.refl _ _ | exact Agree.mix _ _ _ | refine Agree.upd rfl ?_ | refine Agree.mix2 rfl ?_)), k2 - 1, by omega, j + 1, rs', left', P', F', cp', cf', Lr', Ln', Lf', by omega, rfl, h0, h1, h2, h3, h4, h5', h6', h7⟩
    have hx0 : x = [] := by
      cases x with
      | nil => rfl
      | cons a t => simp at hc16
    subst hx0
    have hrd : ∃ (rs' : List Rt) (left' : List Int) (P' F' : Option Addr) (cp' cf' : Nat) (Lr' Ln' Lf' : List Blk), .slice F left.length cf = Value.slice F' left'.length cf' ∧ MkR m l ts ns hd (j + 1) (rtL rs') left' ∧ rs'.length ≤ j + 1 ∧ OwnS P' cp' rs'.length (rs'.flatMap rtCells) 49 2 Lr' ∧ Reads Ln' (fun w => ∀ r ∈ rs', IntsAt w r.nd.A r.nd.l) ∧ (∀ r ∈ rs', r.nd.l.length ≤ 1000) ∧ OwnS F' cf' left'.length (left'.map I) 3 1 Lf' ∧ SH w0 [] w (⟨g7, 34, [.slice P' rs'.length cp', .slice none 0 0]⟩ :: ⟨g2, 34, [.slice none 0 0, .slice none 0 0]⟩ :: ⟨g1, 28, [I m, .slice A l.length ca, .slice B ts.length cb, .slice C ns.length cc, I hd]⟩ :: (Lr' ++ (Ln' ++ Lf'))) :=
      ⟨rs, left, P, F, cp, cf, Lr, Ln, Lf, rfl, MkR.skip hM hR, by omega, hOP, hRn, hcap, hOF, H.drop (by refine List.Sublist.cons _ ?_; exact Sb.out)⟩
    refine WP.skip ?_
    refine WP.region ?_
    refine OPS.val rfl rfl rfl (Ev.mvI rfl) ?_
    refine OPS.val rfl rfl rfl (Ev.add rfl rfl (by unfold fits; omega)) ?_
    refine OPS.val rfl rfl rfl (Ev.asI rfl) ?_
    refine OPS.nil ?_
    obtain ⟨rs', left', P', F', cp', cf', Lr', Ln', Lf', h0, h1, h2, h3, h4, h5', h6', h7⟩ := hrd
    exact ⟨(by repeat (first | exact Agree.refl _ _ | exact Agree.mix _ _ _ | refine Agree.upd rfl ?_ | refine Agree.mix2 rfl ?_)), k2 - 1, by omega, j + 1, rs', left', P', F', cp', cf', Lr', Ln', Lf', by omega, rfl, h0, h1, h2, h3, h4, h5', h6', h7⟩
  refine WP.exit ?_
  refine XB.hit ?_
  refine WP.seq ?_
  refine WP.region ?_
  refine OPS.val rfl rfl rfl (Ev.mvS rfl) ?_
  refine OPS.val rfl rfl rfl (Ev.fieldAddr (fld_run rfl) rfl) ?_
  refine OPS.store 0 _ rfl rfl rfl (size_run rfl) rfl (cS rfl) rfl rfl H rfl (by simp) ?_
  clear H; intro w H; try simp only [List.set_cons_zero, List.set_cons_succ, putL, Nat.zero_add] at H
  refine OPS.nil ?_
  refine WP.seq ?_
  refine WP.region ?_
  refine OPS.val rfl rfl rfl ((by exact Ev.loadO 0 H rfl (agg_run rfl) (size_run rfl) (by rfl) rfl)) ?_
  refine OPS.store 1 _ rfl rfl rfl (size_run rfl) rfl (cA rfl) rfl rfl H rfl (by simp) ?_
  clear H; intro w H; try simp only [List.set_cons_zero, List.set_cons_succ, putL, Nat.zero_add] at H
  refine OPS.val rfl rfl rfl (Ev.asI rfl) ?_
  refine OPS.nil ?_
  refine WP.ret ⟨[_, _], ⟨(by exact resCellA 1 H rfl (agg_run rfl) (size_run rfl) (by rfl) rfl), rfl, trivial⟩, ?_⟩
  have hj : j = ts.length := by simp at hc11; omega
  subst hj
  refine ⟨_, rs, left, P, F, cp, cf, Lr ++ (Ln ++ Lf), rfl, ⟨hE.symm, fun h => absurd rfl h, fun _ => ⟨m, rfl, hM⟩⟩, ⟨by omega, by omega, hcap⟩, (fun w0 S w H => ⟨(hOP.rows (R := []) rtCells_len (by omega) (H.drop (List.sublist_append_left _ _))).1, hRn.at H ((List.sublist_append_left Ln Lf).trans (List.sublist_append_right _ _)), (hOF.ones (R := []) (H.drop ((List.sublist_append_right Ln Lf).trans (List.sublist_append_right _ _)))).1⟩), H.drop Sb.out⟩
end Go.Proofs.YtgcokllbophkkaaGreat
namespace Go.Proofs.YtgcokllbophkkaaGreat
open Go Go.W Go.RowKit
noncomputable def valL (n : Int) (l : List Edg) (ts : List Truck) (ns : List Need) (hd : Int) (rs : List Rt) (left : List Int) : Int := if planErr n l ts ns hd rs left = 0 then mvL ns left else 0
noncomputable def valD (n : Int) (l : List Edg) (ts : List Truck) (ns : List Need) (hd : Int) (rs : List Rt) (left : List Int) : Int := if planErr n l ts ns hd rs left = 0 then drvL n l ts ns hd rs else 0
theorem PlanOk.left {n : Int} {l : List Edg} {ts : List Truck} {ns : List Need} {hd : Int} {rs : List Rt} {left : List Int} (h : PlanOk n l ts ns hd rs left) : ∀ i ∈ left, 0 ≤ i ∧ i < (ns.length : Int) := fun i hi => by
 have h1 := h.good
 unfold goodAll at h1
 rw [Bool.and_eq_true, decide_eq_true_eq] at h1
 exact h1.1 i (List.mem_append_right _ hi)
theorem PlanOk.moves {n : Int} {l : List Edg} {ts : List Truck} {ns : List Need} {hd : Int} {rs : List Rt} {left : List Int} (h : PlanOk n l ts ns hd rs left) : ∀ x ∈ ns, -32 ≤ x.move ∧ x.move ≤ 32 := fun x hx => by
 obtain ⟨m, _, hN⟩ := nightOk_of h.night
 exact (hN.nd x hx).2.2
theorem rebValue (n hd : Int) (A B C P F : Option Addr) (l : List Edg) (ts : List Truck) (ns : List Need) (rs : List Rt) (left : List Int) (ca cb cc cp cf : Nat) (w0 : World) (hN : NightAt w0 A B C l ts ns cc)
  (hP : RtsAt w0 P rs) (hF : IntsAt w0 F left) (hfl : left.length ≤ 1000) (hnl : ns.length ≤ 1000) :
  Calls Tryz.prog 15 #[.agg #[I n, .slice A l.length ca, .slice B ts.length cb, .slice C ns.length cc, I hd], .agg #[.slice P rs.length cp, .slice F left.length cf]] w0 fun e w' =>
   e = .returned (.tuple #[I (valL n l ts ns hd rs left), I (valD n l ts ns hd rs left), I (planErr n l ts ns hd rs left)]) ∧ Below w0.heap.size w0 w' := by
 have H := SH.refl w0
 have hfew := hP.few
 refine Calls.ofWP Tryz.func15 rfl Tryz.results15 Tryz.ntmps15 rfl <| Y.qr <| Y.bx (cA rfl) H ?_
 clear H; intro g2 w H
 refine Y.bx (cA rfl) H ?_
 clear H; intro g3 w H
 refine Y.b rfl <| Y.b rfl <| Y.b rfl <| Y.z <| Y.q <| Y.qr <| Y.v (Y.o H 1 rfl rfl) <| Y.v (Y.o H 0 rfl rfl) <| OPS.call (d := some 18) rfl rfl rfl (EvC.func (fun_run rfl)) (truckFeasible n hd A B C P F l ts ns rs left ca cb cc cp cf w (hN.sh H).l (hN.sh H).t (hN.sh H).n hN.c (hP.sh H) (hF.sh H) hfl hnl) ?_
 rintro _ w ⟨rfl, hb⟩
 refine ⟨_, rfl, ?_⟩
 replace H := H.toBelow hb; clear hb
 refine Y.b rfl <| Y.z <| Y.qr <| Y.a rfl <| Y.v (Ev.neq rfl rfl) <| Y.z ?_
 refine WP.cond rfl (fun hc2 => ?_) (fun hc2 => ?_)
 ·refine Y.qr <| Y.a rfl <| Y.b rfl <| Y.b rfl <| Y.b rfl <| Y.z ?_
  refine WP.ret ⟨_, rfl, ?_⟩
  have h : planErr n l ts ns hd rs left ≠ 0 := by simpa using hc2
  exact ⟨by rw [valL, valD, if_neg h, if_neg h]; rfl, H.below⟩
 have h0 : planErr n l ts ns hd rs left = 0 := by simpa using hc2
 have hK := planOk_of h0
 have hm := hK.moves
 rw [valL, valD, if_pos h0, if_pos h0, h0]
 refine Y.k <| Y.qr <| Y.b rfl <| Y.b rfl <| Y.z <| Y.q <| Y.qr <| Y.fa rfl rfl <| Y.j H 0 rfl rfl rfl <| Y.v (Y.n rfl) <| Y.a rfl <| Y.z <| WP.block <| WP.loop [8, 11, 25, 26, 27, 28, 29, 30, 31, 32, 33, 34, 35, 36, 37, 38, 39, 40, 41, 42, 43, 44, 45] (fun k e w' => ∃ j : Nat, j + k = left.length ∧ e 25 = I j ∧ e 8 = I (mvL ns (left.take j)) ∧ SH w0 [] w' [⟨g3, 34, [.slice P rs.length cp, .slice F left.length cf]⟩, ⟨g2, 28, [I n, .slice A l.length ca, .slice B ts.length cb, .slice C ns.length cc, I hd]⟩]) (left.length) (⟨0, by omega, rfl, rfl, H⟩) ?_
 clear H
 rintro k u w ⟨j, hk, h25, h8, H⟩
 refine WP.know (t := 25) h25 (WP.know (t := 8) h8 ?_)
 refine Y.qr <| Y.v (Ev.lss rfl rfl) <| Y.z <| Y.q ?_
 refine WP.cond rfl (fun hc6 => ?_) (fun hc6 => ?_)
 ·have hlt : j < left.length := by simpa using hc6
  obtain ⟨br, orr, rfl, hx⟩ := hF j hlt
  have hir := hK.left left[j] (List.getElem_mem hlt)
  obtain ⟨i, hi⟩ := Int.eq_ofNat_of_zero_le hir.1
  rw [hi] at hx
  have hil : i < ns.length := by omega
  obtain ⟨bn, on, rfl, hy⟩ := hN.n i hil
  have hmv := hm ns[i] (List.getElem_mem hil)
  have hbd := mvL_bd hm (left.take j)
  have htl : (left.take j).length = j := by rw [List.length_take]; omega
  have hsn := mvL_snoc ns (left.take j) left[j]
  rw [← List.take_succ_eq_append_getElem hlt, hi, needAt_eq hil] at hsn
  generalize ns[i] = x at *
  refine Y.k <| Y.q <| WP.block <| Y.qr <| Y.v (Y.x rfl rfl rfl rfl) <| Y.v (Y.c (H.ld0 (by assumption)) rfl) ?_
  refine Y.b rfl <| Y.z <| WP.rstill mixed (by kernel_rfl) H ?_
  clear H; intro w hbw8 H
  obtain ⟨q1, q2, _⟩ := cellsAt_sh H hy
  refine Y.a rfl <| Y.fa rfl rfl <| Y.j H 1 rfl rfl rfl <| Y.a rfl <| Y.v (Y.X rfl rfl rfl rfl rfl) <| Y.fa rfl rfl <| Y.v (Y.c (by assumption) rfl) ?_
  refine Y.fa rfl rfl <| Y.j H 1 rfl rfl rfl <| Y.a rfl <| Y.v (Y.X rfl rfl rfl rfl rfl) <| Y.fa rfl rfl <| Y.v (Y.c (by assumption) rfl) ?_
  refine Y.v (Ev.neg rfl (by unfold fits; omega)) <| Y.v (Ev.max rfl rfl) <| Y.v (Y.p rfl rfl) <| Y.b rfl <| OPS.nil_s <| Y.r <| Y.v (Y.p rfl rfl) <| Y.a rfl <| Y.z ?_
  exact ⟨Y.ag, k - 1, by omega, j + 1, by omega, rfl, (by rw [hsn]; rfl), H⟩
 have hj : j = left.length := by simp at hc6; omega
 rw [hj, List.take_length]
 refine WP.exit <| XB.hit <| Y.q <| Y.qr <| Y.fa rfl rfl <| Y.j H 0 rfl rfl rfl <| Y.v (Y.n rfl) <| Y.a rfl <| Y.z <| WP.block <| WP.loop [4, 5, 6, 9, 13, 14, 15, 49, 50, 51, 52, 53, 54, 55, 56, 57, 58, 59, 60, 61, 62, 63, 64, 65] (fun k e w' => ∃ j : Nat, j + k = rs.length ∧ e 49 = I j ∧ e 9 = I (drvL n l ts ns hd (rs.take j)) ∧ (0 ≤ drvL n l ts ns hd (rs.take j) ∧ drvL n l ts ns hd (rs.take j) ≤ 2000000 * j) ∧ SH w0 [] w' [⟨g3, 34, [.slice P rs.length cp, .slice F left.length cf]⟩, ⟨g2, 28, [I n, .slice A l.length ca, .slice B ts.length cb, .slice C ns.length cc, I hd]⟩]) (rs.length) (⟨0, by omega, rfl, rfl, by simp [drvL], H⟩) ?_
 clear H
 rintro k2 u2 w ⟨j2, hk2, h49, h9, hbd2, H⟩
 refine WP.know (t := 49) h49 (WP.know (t := 9) h9 ?_)
 refine Y.qr <| Y.v (Ev.lss rfl rfl) <| Y.z <| Y.q ?_
 refine WP.cond rfl (fun hc11 => ?_) (fun hc11 => ?_)
 ·have hlt2 : j2 < rs.length := by simpa using hc11
  obtain ⟨b, o, rfl, hc⟩ := hP.rows j2 hlt2
  have hr := hP.ints rs[j2] (List.getElem_mem hlt2)
  have hrl := hP.len rs[j2] (List.getElem_mem hlt2)
  have hrc := hP.cap rs[j2] (List.getElem_mem hlt2)
  have hE := hK.walks j2 hlt2
  have hob := outD_bd hE
  refine Y.k <| Y.q <| WP.block <| Y.qr <| Y.v (Y.X rfl rfl rfl rfl rfl) <| Y.v (Ev.loadN (rtCells rs[j2]) (agg_run rfl) (size_run rfl) rfl (cellsAt_sh H hc)) <| Y.al H rfl rfl ?_
  clear H; intro g13 w H
  refine Y.ss 0 H rfl (cA rfl) rfl ?_
  clear H; intro w H
  refine Y.z <| Y.qr <| Y.v (Y.o H 2 rfl rfl) <| Y.v (Y.o H 0 rfl rfl) <| OPS.call (d := some 56) rfl rfl rfl (EvC.func (fun_run rfl)) (truckDriving n hd rs[j2].trk A B C rs[j2].nd.A l ts ns rs[j2].nd.l ca cb cc rs[j2].nd.cap _ (hN.sh H).l (hN.sh H).t (hN.sh H).n hN.c (hr.sh H) (by unfold maxLen; omega) hrc) ?_
  rintro _ w ⟨rfl, hb⟩
  refine ⟨_, rfl, ?_⟩
  replace H := H.toBelow hb; clear hb
  refine Y.v (Ev.mvT rfl) <| Y.v (Ev.extract rfl rfl) <| Y.v (Ev.extract rfl rfl) <| Y.b rfl <| Y.b rfl <| Y.z <| Y.q <| Y.qr <| Y.a rfl <| Y.v (Ev.neq rfl rfl) <| Y.z ?_
  refine WP.cond rfl (fun hc14 => ?_) (fun hc14 => ?_)
  ·refine Y.qr <| Y.a rfl <| Y.b rfl <| Y.b rfl <| Y.b rfl <| Y.z ?_
   refine WP.ret ⟨_, rfl, ?_⟩
   exact absurd hc14 (by simp [hE])
  refine Y.k <| Y.r <| Y.a rfl <| Y.a rfl <| Y.v (Y.p rfl rfl) <| Y.b rfl <| Y.z <| Y.r <| Y.v (Y.p rfl rfl) <| Y.a rfl <| Y.z ?_
  exact ⟨Y.ag, k2 - 1, by omega, j2 + 1, by omega, rfl, by rw [drvL_succ hlt2]; rfl, by rw [drvL_succ hlt2]; omega, H.drop (List.sublist_cons_self _ _)⟩
 have hj2 : j2 = rs.length := by simp at hc11; omega
 rw [hj2, List.take_length]
 refine WP.exit <| XB.hit <| Y.qr <| Y.a rfl <| Y.a rfl <| Y.b rfl <| Y.b rfl <| Y.b rfl <| Y.z ?_
 refine WP.ret ⟨_, rfl, ?_⟩
 exact ⟨rfl, H.below⟩
end Go.Proofs.YtgcokllbophkkaaGreat
namespace Go.Proofs.YtgcokllbophkkaaGreat
open Go Go.W Go.RowKit
noncomputable def gapE (n : Int) (l : List Edg) (ts : List Truck) (ns : List Need) (hd : Int) (rs : List Rt) (left : List Int) : Int :=
 if planErr n l ts ns hd rs left ≠ 0 then planErr n l ts ns hd rs left else if left ≠ [] then 26 else findErr n l ts ns hd
structure GapAns (n : Int) (l : List Edg) (ts : List Truck) (ns : List Need) (hd : Int) (rs : List Rt) (left : List Int) (x : Int) : Prop where
 bad : gapE n l ts ns hd rs left ≠ 0 → x = 0
 good : gapE n l ts ns hd rs left = 0 → planErr n l ts ns hd rs left = 0 ∧ left = [] ∧ findErr n l ts ns hd = 0 ∧ ∃ (s b : Int) (us vs : List Int), FindRet n l ts ns hd s b us vs ∧ x = drvL n l ts ns hd rs - s
theorem drvL_bd {n hd : Int} {l : List Edg} {ts : List Truck} {ns : List Need} : ∀ (rs : List Rt), (∀ i (h : i < rs.length), walkE n l ts ns hd rs[i].trk rs[i].nd.l = 0) → 0 ≤ drvL n l ts ns hd rs ∧ drvL n l ts ns hd rs ≤ 2000000 * rs.length
 | [], _ => by simp [drvL]
 | r :: rs, h => by
  have h1 := drvL_bd rs fun i hi => h (i + 1) (by simpa using hi)
  have h2 := outD_bd (h 0 (by simp))
  simp only [drvL, List.map_cons, List.sum_cons, List.length_cons, List.getElem_cons_zero] at h1 h2 ⊢
  omega
theorem FindRet.secs {n hd s b : Int} {l : List Edg} {ts : List Truck} {ns : List Need} {us vs : List Int} (h : FindRet n l ts ns hd s b us vs) : 0 ≤ s ∧ s ≤ 1125899906842624 := by
 by_cases he : findErr n l ts ns hd = 0
 ·obtain ⟨m, T, rfl, hK, hS, rfl, _, h3⟩ := h.good he
  have h1 := hS.tn
  have h2 := capL_bd hK
  unfold divI
  split
  ·omega
  ·have h4 := Int.ediv_le_self (a := T + capL ts - 1) (capL ts) (by omega)
   have h5 := Int.ediv_nonneg (a := T + capL ts - 1) (b := capL ts) (by omega) (by omega)
   omega
 ·obtain ⟨rfl, _⟩ := h.bad he
  omega
theorem rebGap (n hd : Int) (A B C P F : Option Addr) (l : List Edg) (ts : List Truck) (ns : List Need) (rs : List Rt) (left : List Int) (ca cb cc cp cf : Nat) (w0 : World) (hN : NightAt w0 A B C l ts ns cc)
  (hP : RtsAt w0 P rs) (hF : IntsAt w0 F left) (hfl : left.length ≤ 1000) (hnl : ns.length ≤ 1000) :
  Calls Tryz.prog 17 #[.agg #[I n, .slice A l.length ca, .slice B ts.length cb, .slice C ns.length cc, I hd], .agg #[.slice P rs.length cp, .slice F left.length cf]] w0 fun e w' =>
   ∃ x, e = .returned (.tuple #[I x, I (gapE n l ts ns hd rs left)]) ∧ GapAns n l ts ns hd rs left x ∧ Below w0.heap.size w0 w' := by
 have H := SH.refl w0
 have hfew := hP.few
 refine Calls.ofWP Tryz.func17 rfl Tryz.results17 Tryz.ntmps17 rfl <| Y.qr <| Y.bx (cA rfl) H ?_
 clear H; intro g2 w H
 refine Y.bx (cA rfl) H ?_
 clear H; intro g3 w H
 refine Y.b rfl <| Y.b rfl <| Y.z <| Y.qr <| Y.v (Y.o H 1 rfl rfl) <| Y.v (Y.o H 0 rfl rfl) <| OPS.call (d := some 13) rfl rfl rfl (EvC.func (fun_run rfl)) (rebValue n hd A B C P F l ts ns rs left ca cb cc cp cf w (hN.sh H) (hP.sh H) (hF.sh H) hfl hnl) ?_
 rintro _ w ⟨rfl, hb⟩
 refine ⟨_, rfl, ?_⟩
 replace H := H.toBelow hb; clear hb
 refine Y.v (Ev.mvT rfl) <| Y.v (Ev.extract rfl rfl) <| Y.v (Ev.extract rfl rfl) <| Y.v (Ev.extract rfl rfl) <| Y.b rfl <| Y.b rfl <| Y.b rfl <| Y.z <| Y.q <| Y.qr <| Y.a rfl <| Y.v (Ev.neq rfl rfl) <| Y.z ?_
 refine WP.cond rfl (fun hc2 => ?_) (fun hc2 => ?_)
 ·refine Y.qr <| Y.a rfl <| Y.b rfl <| Y.b rfl <| Y.z ?_
  refine WP.ret ⟨_, rfl, ?_⟩
  have h : planErr n l ts ns hd rs left ≠ 0 := by simpa using hc2
  have hg : gapE n l ts ns hd rs left = planErr n l ts ns hd rs left := if_pos h
  exact ⟨0, by rw [hg]; rfl, ⟨fun _ => rfl, fun h2 => absurd (hg ▸ h2) h⟩, H.below⟩
 have h0 : planErr n l ts ns hd rs left = 0 := by simpa using hc2
 have hK := planOk_of h0
 have hd0 := drvL_bd rs hK.walks
 refine Y.k <| Y.q <| Y.qr <| Y.fa rfl rfl <| Y.j H 0 rfl rfl rfl <| Y.v (Y.n rfl) <| Y.v (Ev.gtr rfl rfl) <| Y.z ?_
 refine WP.cond rfl (fun hc4 => ?_) (fun hc4 => ?_)
 ·refine Y.qr <| Y.b rfl <| Y.b rfl <| Y.z ?_
  refine WP.ret ⟨_, rfl, ?_⟩
  have h : left ≠ [] := by
   rintro rfl
   simp at hc4
  have hg : gapE n l ts ns hd rs left = 26 := by rw [gapE, if_neg (by simp [h0]), if_pos h]
  exact ⟨0, by rw [hg]; rfl, ⟨fun _ => rfl, fun h2 => absurd (hg ▸ h2) (by decide)⟩, H.below⟩
 have h1 : left = [] := by
  cases left with
  | nil => rfl
  | cons a t => simp at hc4
 subst h1
 have hg : gapE n l ts ns hd rs [] = findErr n l ts ns hd := by rw [gapE, if_neg (by simp [h0]), if_neg (by simp)]
 refine Y.k <| Y.qr <| Y.v (Y.o H 1 rfl rfl) <| OPS.call (d := some 26) rfl rfl rfl (EvC.func (fun_run rfl)) (boundFind n hd A B C l ts ns ca cb cc w (hN.sh H)) ?_
 rintro _ w ⟨s, b, us, vs, AU, AV, cu, cv, L, rfl, hR, hrd, Hc⟩
 refine ⟨_, rfl, ?_⟩
 replace H := SH.call (Lv := []) (by rw [List.append_nil]; exact H) Hc
 clear Hc
 refine Y.v (Ev.mvT rfl) <| Y.v (Ev.extract rfl rfl) <| Y.v (Ev.extract rfl rfl) <| Y.al H rfl rfl ?_
 clear H; intro g9 w H
 refine Y.ss 0 H rfl (cA rfl) rfl ?_
 clear H; intro w H
 refine Y.b rfl <| Y.z <| Y.q <| Y.qr <| Y.a rfl <| Y.v (Ev.neq rfl rfl) <| Y.z ?_
 refine WP.cond rfl (fun hc7 => ?_) (fun hc7 => ?_)
 ·refine Y.qr <| Y.a rfl <| Y.b rfl <| Y.b rfl <| Y.z ?_
  refine WP.ret ⟨_, rfl, ?_⟩
  have h2 : findErr n l ts ns hd ≠ 0 := by simpa using hc7
  exact ⟨0, by rw [hg]; rfl, ⟨fun _ => rfl, fun h3 => absurd (hg ▸ h3) h2⟩, H.below⟩
 have h2 : findErr n l ts ns hd = 0 := by simpa using hc7
 have hsb := hR.secs
 have hvd : valD n l ts ns hd rs [] = drvL n l ts ns hd rs := if_pos h0
 unfold bndL at H
 refine Y.k <| Y.qr <| Y.a rfl <| Y.fa rfl rfl <| Y.j H 0 rfl rfl rfl <| Y.v (Y.s rfl rfl) <| Y.b rfl <| Y.b rfl <| Y.z ?_
 refine WP.ret ⟨_, rfl, ?_⟩
 exact ⟨valD n l ts ns hd rs [] - s, by rw [hg, h2]; rfl, ⟨fun h3 => absurd (hg.trans h2) h3, fun _ => ⟨h0, rfl, h2, s, b, us, vs, hR, by rw [hvd]⟩⟩, H.below⟩
def betB (eA eB lA lB dA dB : Int) : Bool := decide (eA = 0) && (decide (eB = 0) && (decide (lA < lB) || (decide (lA = lB) && decide (dA < dB))))
theorem rebBetter (n hd : Int) (A B C P F P2 F2 : Option Addr) (l : List Edg) (ts : List Truck) (ns : List Need) (rs rs2 : List Rt) (left left2 : List Int) (ca cb cc cp cf cp2 cf2 : Nat) (w0 : World) (hN : NightAt w0 A B C l ts ns cc)
  (hP : RtsAt w0 P rs) (hF : IntsAt w0 F left) (hfl : left.length ≤ 1000) (hP2 : RtsAt w0 P2 rs2) (hF2 : IntsAt w0 F2 left2) (hfl2 : left2.length ≤ 1000) (hnl : ns.length ≤ 1000) :
  Calls Tryz.prog 19 #[.agg #[I n, .slice A l.length ca, .slice B ts.length cb, .slice C ns.length cc, I hd], .agg #[.slice P rs.length cp, .slice F left.length cf], .agg #[.slice P2 rs2.length cp2, .slice F2 left2.length cf2]] w0 fun e w' =>
   e = .returned (.bool (betB (planErr n l ts ns hd rs left) (planErr n l ts ns hd rs2 left2) (valL n l ts ns hd rs left) (valL n l ts ns hd rs2 left2) (valD n l ts ns hd rs left) (valD n l ts ns hd rs2 left2))) ∧ Below w0.heap.size w0 w' := by
 have H := SH.refl w0
 refine Calls.ofWP Tryz.func19 rfl Tryz.results19 Tryz.ntmps19 rfl <| Y.qr <| Y.bx (cA rfl) H ?_
 clear H; intro g3 w H
 refine Y.bx (cA rfl) H ?_
 clear H; intro g4 w H
 refine Y.bx (cA rfl) H ?_
 clear H; intro g5 w H
 refine Y.v (Ev.asB rfl) <| Y.z <| Y.qr <| Y.v (Y.o H 2 rfl rfl) <| Y.v (Y.o H 1 rfl rfl) <| OPS.call (d := some 16) rfl rfl rfl (EvC.func (fun_run rfl)) (rebValue n hd A B C P F l ts ns rs left ca cb cc cp cf w (hN.sh H) (hP.sh H) (hF.sh H) hfl hnl) ?_
 rintro _ w ⟨rfl, hb⟩
 refine ⟨_, rfl, ?_⟩
 replace H := H.toBelow hb; clear hb
 refine Y.v (Ev.mvT rfl) <| Y.v (Ev.extract rfl rfl) <| Y.v (Ev.extract rfl rfl) <| Y.v (Ev.extract rfl rfl) <| Y.b rfl <| Y.b rfl <| Y.b rfl <| Y.z <| Y.qr <| Y.v (Y.o H 2 rfl rfl) <| Y.v (Y.o H 0 rfl rfl) <| OPS.call (d := some 23) rfl rfl rfl (EvC.func (fun_run rfl)) (rebValue n hd A B C P2 F2 l ts ns rs2 left2 ca cb cc cp2 cf2 w (hN.sh H) (hP2.sh H) (hF2.sh H) hfl2 hnl) ?_
 rintro _ w ⟨rfl, hb⟩
 refine ⟨_, rfl, ?_⟩
 replace H := H.toBelow hb; clear hb
 refine Y.v (Ev.mvT rfl) <| Y.v (Ev.extract rfl rfl) <| Y.v (Ev.extract rfl rfl) <| Y.v (Ev.extract rfl rfl) <| Y.b rfl <| Y.b rfl <| Y.b rfl <| Y.z <| Y.q <| Y.qr <| Y.a rfl <| Y.v (Ev.neq rfl rfl) <| Y.v (Ev.mvB rfl) <| Y.g rfl rfl (fun hg => Y.m rfl) <| Y.g rfl rfl (fun hg => Ev.neq (gvE hg rfl) rfl) <| Y.v (Ev.pickOr rfl rfl rfl) <| Y.z ?_
 refine WP.cond rfl (fun hc3 => ?_) (fun hc3 => ?_)
 ·refine Y.qr <| Y.v (Ev.asB rfl) <| Y.z ?_
  refine WP.ret ⟨_, rfl, ?_⟩
  refine ⟨ret_b rfl ?_, H.below⟩
  unfold betB
  simp at hc3
  grind
 refine Y.k <| Y.qr <| Y.a rfl <| Y.a rfl <| Y.v (Ev.lss rfl rfl) <| Y.v (Ev.mvB rfl) <| Y.g rfl rfl (fun hg => Y.m rfl) <| Y.g rfl rfl (fun hg => Y.m rfl) <| Y.g rfl rfl (fun hg => Ev.eql (gvE hg rfl) (gvE hg rfl)) <| Y.g rfl rfl (fun hg => Ev.mvB (gvE hg rfl)) <| OPS.gvalN rfl rfl (GB.g rfl) rfl rfl (fun hg => Ev.mvI rfl) <| OPS.gvalN rfl rfl (GB.g rfl) rfl rfl (fun hg => Ev.mvI rfl) <| OPS.gvalN rfl rfl (GB.g rfl) rfl rfl (fun hg => Ev.lss (gvE hg rfl) (gvE hg rfl)) <| Y.g rfl rfl (fun hg => Ev.pickAnd2 (beqT hg) (gvE hg rfl) rfl rfl) <| Y.v (Ev.pickOr rfl rfl rfl) <| Y.v (Ev.asB rfl) <| Y.z ?_
 refine WP.ret ⟨_, rfl, ?_⟩
 refine ⟨ret_b rfl ?_, H.below⟩
 unfold betB
 simp at hc3
 grind
end Go.Proofs.YtgcokllbophkkaaGreat
namespace Go.Proofs.YtgcokllbophkkaaGreat
open Go Go.W Go.RowKit
def tL : List Edg := [⟨0, 1, 60⟩, ⟨1, 0, 60⟩, ⟨1, 2, 30⟩, ⟨2, 1, 30⟩, ⟨0, 2, 80⟩, ⟨2, 0, 80⟩]
def tT (c : Int) : List Truck := [⟨0, c, 0, 3600⟩]
def tN : List Need := [⟨1, 8⟩, ⟨2, -5⟩]
theorem tE10 : nightErr 3 tL (tT 10) tN 10 = 0 := by decide
theorem tE7 : nightErr 3 tL (tT 7) tN 10 = 0 := by decide
theorem tRoad : RoadOk 3 tL := by
 obtain ⟨m, hm, hN⟩ := nightOk_of tE10
 obtain rfl : m = 3 := by omega
 exact hN.road
theorem tEdge {i u v : Nat} {w : Int} (h : EdgeAt tL i u v w) : (u = 0 ∧ v = 1 ∧ w = 60) ∨ (u = 1 ∧ v = 0 ∧ w = 60) ∨ (u = 1 ∧ v = 2 ∧ w = 30) ∨ (u = 2 ∧ v = 1 ∧ w = 30) ∨ (u = 0 ∧ v = 2 ∧ w = 80) ∨ (u = 2 ∧ v = 0 ∧ w = 80) := by
 obtain ⟨hi, h1, h2, h3⟩ := h
 have hi6 : i < 6 := hi
 match i, hi6, hi, h1, h2, h3 with
 | 0, _, _, h1, h2, h3 => have h1 : (0 : Int) = u := h1; have h2 : (1 : Int) = v := h2; have h3 : (60 : Int) = w := h3; omega
 | 1, _, _, h1, h2, h3 => have h1 : (1 : Int) = u := h1; have h2 : (0 : Int) = v := h2; have h3 : (60 : Int) = w := h3; omega
 | 2, _, _, h1, h2, h3 => have h1 : (1 : Int) = u := h1; have h2 : (2 : Int) = v := h2; have h3 : (30 : Int) = w := h3; omega
 | 3, _, _, h1, h2, h3 => have h1 : (2 : Int) = u := h1; have h2 : (1 : Int) = v := h2; have h3 : (30 : Int) = w := h3; omega
 | 4, _, _, h1, h2, h3 => have h1 : (0 : Int) = u := h1; have h2 : (2 : Int) = v := h2; have h3 : (80 : Int) = w := h3; omega
 | 5, _, _, h1, h2, h3 => have h1 : (2 : Int) = u := h1; have h2 : (0 : Int) = v := h2; have h3 : (80 : Int) = w := h3; omega
def ta3 (a b c : Int) (v : Nat) : Int := if v = 0 then a else if v = 1 then b else c
theorem tRD {s : Nat} {a b c : Int} (h0 : ta3 a b c s = 0) (ha : 0 ≤ a) (hb : 0 ≤ b) (hc : 0 ≤ c) (hclo : b ≤ a + 60 ∧ a ≤ b + 60 ∧ c ≤ b + 30 ∧ b ≤ c + 30 ∧ c ≤ a + 80 ∧ a ≤ c + 80)
  (hpar : ∀ v, v < 3 → v ≠ s → ∃ u i w, u < 3 ∧ EdgeAt tL i u v w ∧ ta3 a b c v = ta3 a b c u + w) : RD tL 3 s (fun _ => true) (ta3 a b c) where
 src := ⟨rfl, h0⟩
 clo i u v w hE _ _ _ := by
  refine ⟨rfl, ?_⟩
  rcases tEdge hE with ⟨rfl, rfl, rfl⟩ | ⟨rfl, rfl, rfl⟩ | ⟨rfl, rfl, rfl⟩ | ⟨rfl, rfl, rfl⟩ | ⟨rfl, rfl, rfl⟩ | ⟨rfl, rfl, rfl⟩ <;> simp [ta3] <;> omega
 par v hv _ hvs := by
  obtain ⟨u, i, w, h1, h2, h3⟩ := hpar v hv hvs
  exact ⟨u, i, w, h1, rfl, h2, h3⟩
 nn v _ _ := by unfold ta3; split <;> (try split) <;> omega
theorem tRD0 : RD tL 3 0 (fun _ => true) (ta3 0 60 80) := tRD rfl (by omega) (by omega) (by omega) (by omega) fun v hv hne => by
 rcases (show v = 1 ∨ v = 2 by omega) with rfl | rfl
 ·exact ⟨0, 0, 60, by omega, ⟨by decide, rfl, rfl, rfl⟩, rfl⟩
 ·exact ⟨0, 4, 80, by omega, ⟨by decide, rfl, rfl, rfl⟩, rfl⟩
theorem tRD1 : RD tL 3 1 (fun _ => true) (ta3 60 0 30) := tRD rfl (by omega) (by omega) (by omega) (by omega) fun v hv hne => by
 rcases (show v = 0 ∨ v = 2 by omega) with rfl | rfl
 ·exact ⟨1, 1, 60, by omega, ⟨by decide, rfl, rfl, rfl⟩, rfl⟩
 ·exact ⟨1, 2, 30, by omega, ⟨by decide, rfl, rfl, rfl⟩, rfl⟩
theorem tRD2 : RD tL 3 2 (fun _ => true) (ta3 80 30 0) := tRD rfl (by omega) (by omega) (by omega) (by omega) fun v hv hne => by
 rcases (show v = 0 ∨ v = 1 by omega) with rfl | rfl
 ·exact ⟨2, 5, 80, by omega, ⟨by decide, rfl, rfl, rfl⟩, rfl⟩
 ·exact ⟨2, 3, 30, by omega, ⟨by decide, rfl, rfl, rfl⟩, rfl⟩
theorem t00 : roadT 3 tL 0 0 = 0 := by rw [roadT_eq tRoad tRD0 (by omega)]; rfl
theorem t01 : roadT 3 tL 0 1 = 60 := by rw [roadT_eq tRoad tRD0 (by omega)]; rfl
theorem t02 : roadT 3 tL 0 2 = 80 := by rw [roadT_eq tRoad tRD0 (by omega)]; rfl
theorem t12 : roadT 3 tL 1 2 = 30 := by rw [roadT_eq tRoad tRD1 (by omega)]; rfl
theorem t20 : roadT 3 tL 2 0 = 80 := by rw [roadT_eq tRoad tRD2 (by omega)]; rfl
theorem tW01 : walkE 3 tL (tT 10) tN 10 0 [0, 1] = 0 := by
 rw [walkE, if_neg (by rw [tE10]; decide), if_neg (by decide)]
 simp [endT, goE, goT, goD, roadD, needAt, visitE, visitT, inB, startT, homeE, tN, tT, t01, t12, t20, absI]
theorem tD01 : outD 3 tL (tT 10) tN 10 0 [0, 1] = 170 := by
 rw [outD, if_pos tW01]
 simp [walkT, endT, goT, goD, roadD, needAt, visitT, startT, homeT, driveS, tN, tT, t01, t12, t20]
theorem tW7 : walkE 3 tL (tT 7) tN 10 0 [] = 0 := by
 rw [walkE, if_neg (by rw [tE7]; decide), if_neg (by decide)]
 simp [endT, goE, goT, goD, roadD, startT, homeE, tT, t00]
theorem tW10 : walkE 3 tL (tT 10) tN 10 0 [1, 0] ≠ 0 := by
 rw [walkE, if_neg (by rw [tE10]; decide), if_neg (by decide)]
 simp [goE, goD, roadD, needAt, visitE, inB, startT, tN, tT, t02]
theorem tW0 (x : List Int) (hr : routeErr (tT 7) tN 0 (0 :: x) = 0) : walkE 3 tL (tT 7) tN 10 0 (0 :: x) ≠ 0 := by
 rw [walkE, if_neg (by rw [tE7]; decide), if_neg (by rw [hr]; decide)]
 simp [goE, goD, roadD, needAt, visitE, inB, startT, tN, tT, t01]
theorem tW1 (x : List Int) (hr : routeErr (tT 7) tN 0 (1 :: x) = 0) : walkE 3 tL (tT 7) tN 10 0 (1 :: x) ≠ 0 := by
 rw [walkE, if_neg (by rw [tE7]; decide), if_neg (by rw [hr]; decide)]
 simp [goE, goD, roadD, needAt, visitE, inB, startT, tN, tT, t02]
theorem of01 {o : List Int} (h1 : o.Nodup) (h2 : ∀ i ∈ o, i ∈ [(0 : Int), 1]) : o = [] ∨ o = [0] ∨ o = [1] ∨ o = [0, 1] ∨ o = [1, 0] := by
 have h4 := h1.length_le_of_subset (l₂ := [0, 1]) h2
 match o, h1, h2, h4 with
 | [], _, _, _ => simp
 | [a], _, h2, _ =>
  have := h2 a (by simp)
  simp at this
  rcases this with rfl | rfl <;> simp
 | [a, b], h1, h2, _ =>
  have ha := h2 a (by simp)
  have hb := h2 b (by simp)
  simp at ha hb
  rcases ha with rfl | rfl <;> rcases hb with rfl | rfl <;> first | (exact absurd h1 (by decide)) | simp
theorem tR10 : RouteR 3 tL (tT 10) tN 10 0 [0, 1] [0, 1] := .inl ⟨by decide, ⟨⟨⟨by decide, fun i hi => hi⟩, tW01⟩, fun o ho => by
 obtain ⟨⟨h1, h2⟩, h3⟩ := ho
 have hm : mvL tN [0, 1] = 13 := by decide
 rcases of01 h1 h2 with rfl | rfl | rfl | rfl | rfl
 ·rintro (h | ⟨h, _⟩) <;> exact absurd h (by decide)
 ·rintro (h | ⟨h, _⟩) <;> exact absurd h (by decide)
 ·rintro (h | ⟨h, _⟩) <;> exact absurd h (by decide)
 ·exact worse_irr _ _ _
 ·exact absurd h3 tW10⟩⟩
theorem tR7 : RouteR 3 tL (tT 7) tN 10 0 [0, 1] [] := .inl ⟨by decide, ⟨⟨⟨by decide, by simp⟩, tW7⟩, fun o ho => by
 obtain ⟨⟨h1, h2⟩, h3⟩ := ho
 rcases of01 h1 h2 with rfl | rfl | rfl | rfl | rfl
 ·exact worse_irr _ _ _
 ·exact absurd h3 (tW0 [] (by decide))
 ·exact absurd h3 (tW1 [] (by decide))
 ·exact absurd h3 (tW0 [1] (by decide))
 ·exact absurd h3 (tW1 [0] (by decide))⟩⟩
theorem tMk10 {e : Int} {R : List (Int × List Int)} {left : List Int} (h : MakeAns tL (tT 10) tN 10 3 e R left) : e = 0 ∧ R = [(0, [0, 1])] ∧ left = [] := by
 refine h.unique (e' := 0) (R' := [(0, [0, 1])]) (left' := []) ⟨tE10.symm, fun h => absurd rfl h, fun _ => ⟨3, rfl, ?_⟩⟩
 have h0 : MkR 3 tL (tT 10) tN 10 0 [] [0, 1] := MkR.start
 exact MkR.add h0 tR10 (by simp)
theorem tMk7 {e : Int} {R : List (Int × List Int)} {left : List Int} (h : MakeAns tL (tT 7) tN 10 3 e R left) : e = 0 ∧ R = [] ∧ left = [0, 1] := by
 refine h.unique (e' := 0) (R' := []) (left' := [0, 1]) ⟨tE7.symm, fun h => absurd rfl h, fun _ => ⟨3, rfl, ?_⟩⟩
 have h0 : MkR 3 tL (tT 7) tN 10 0 [] [0, 1] := MkR.start
 exact MkR.skip h0 tR7
theorem tPl10 {r : Rt} (h1 : r.trk = 0) (h2 : r.nd.l = [0, 1]) : planErr 3 tL (tT 10) tN 10 [r] [] = 0 := by
 have hr : routesE 3 tL (tT 10) tN 10 [r] = 0 := by
  rw [routesE, h1, h2, tW01]; simp [routesE]
 have ha : allN [r] = [0, 1] := by simp [allN, h2]
 rw [planErr, if_neg (by rw [tE10]; simp), if_neg (by rw [hr]; simp), ha, List.map_cons, h1]
 decide
theorem tPl7 : planErr 3 tL (tT 7) tN 10 [] [0, 1] = 0 := by
 rw [planErr, if_neg (by rw [tE7]; simp), if_neg (by simp [routesE])]
 decide
theorem tDr10 {r : Rt} (h1 : r.trk = 0) (h2 : r.nd.l = [0, 1]) : drvL 3 tL (tT 10) tN 10 [r] = 170 := by
 unfold drvL; simp [h1, h2, tD01]
theorem tTm : timL 3 tL tN = [[30]] := by
 have h : timL 3 tL tN = [[roadT 3 tL 1 2]] := rfl
 rw [h, t12]
theorem tFe : findErr 3 tL (tT 10) tN 10 = 0 := by
 rw [findErr, if_neg (by rw [tE10]; simp), show (3 : Int).toNat = 3 from rfl, tTm, solveErr, if_neg (by decide), if_pos]
 intro u v hu hF
 have := hF 0 0 30 rfl (by omega)
 have := hu 0
 show Flo.dn [5] v ≤ Flo.dn [8] u
 simp [Flo.dn]; omega
theorem tDM : Flo.DMax [8] [5] [[30]] 150 := by
 refine ⟨⟨fun _ => 0, fun _ => 30, fun _ => Int.le_refl _, fun j k x h _ => by obtain ⟨_, _, rfl⟩ := tm1 h; show (30 : Int) ≤ 0 + 1 * 30; omega, by simp [Flo.dn]⟩, fun u v hu hF => ?_⟩
 have := hF 0 0 30 rfl (by omega)
 have := hu 0
 simp [Flo.dn]; omega
theorem tSecs {s b : Int} {us vs : List Int} (h : FindRet 3 tL (tT 10) tN 10 s b us vs) : s = 15 := by
 obtain ⟨m, T, hm, _, hS, h1, h2, _⟩ := h.good tFe
 obtain rfl : m = 3 := by omega
 have hx := hS.max
 rw [tTm] at hx
 obtain rfl : T = 150 := hx.unique tDM
 exact h1.trans (by decide)
theorem tGap {r : Rt} (h1 : r.trk = 0) (h2 : r.nd.l = [0, 1]) : gapE 3 tL (tT 10) tN 10 [r] [] = 0 := by
 rw [gapE, if_neg (by rw [tPl10 h1 h2]; simp), if_neg (by simp), tFe]
theorem tGapV {r : Rt} {x : Int} (h1 : r.trk = 0) (h2 : r.nd.l = [0, 1]) (h : GapAns 3 tL (tT 10) tN 10 [r] [] x) : x = 155 := by
 obtain ⟨_, _, _, s, b, us, vs, hR, rfl⟩ := h.good (tGap h1 h2)
 rw [tDr10 h1 h2, tSecs hR]; rfl
theorem tVal7 : valL 3 tL (tT 7) tN 10 [] [0, 1] = 13 ∧ valD 3 tL (tT 7) tN 10 [] [0, 1] = 0 := by
 rw [valL, valD, if_pos tPl7, if_pos tPl7]
 exact ⟨by decide, rfl⟩
theorem betB_irr (e l d : Int) : betB e e l l d d = false := by unfold betB; simp
end Go.Proofs.YtgcokllbophkkaaGreat
