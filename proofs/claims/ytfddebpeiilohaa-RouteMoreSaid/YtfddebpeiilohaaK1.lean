/-
  Walks: slices.Sorted of slices.Values, Compact, Reverse.
-/
import Derived.Test.YtfddebpeiilohaaO1
import Derived.Test.YtfddebpeiilohaaI1
import Derived.Test.YtfddebpeiilohaaSrt
import Derived.Test.YtfddebpeiilohaaLists
import Derived.Test.YtfddebpeiilohaaPtr
import Derived.Sort.OwnSortedInts
set_option linter.all false
namespace Go.Proofs.Ytfddebpeiilohaa
open Go Go.W Go.RowKit

/-! ### Compact -/
/-- the first i numbers, without those that equal the one before them -/
def cmpT (zs : List Int) : Nat → List Int
  | 0 => []
  | i + 1 => cmpT zs i ++ if 0 < i ∧ zs.getD i 0 = zs.getD (i - 1) 0 then [] else [zs.getD i 0]
theorem cmpT_len (zs : List Int) : ∀ i, (cmpT zs i).length ≤ i
  | 0 => by simp [cmpT]
  | i + 1 => by
    have := cmpT_len zs i
    rw [cmpT, List.length_append]; split <;> simp <;> omega
theorem cmpT_one (zs : List Int) : cmpT zs 1 = [zs.getD 0 0] := by simp [cmpT]
/-- nothing repeated among the first i -/
theorem cmpT_id {zs : List Int} : ∀ {i : Nat}, i ≤ zs.length → (∀ j, 0 < j → j < i → zs.getD j 0 ≠ zs.getD (j - 1) 0) → cmpT zs i = zs.take i
  | 0, _, _ => by simp [cmpT]
  | i + 1, hi, h => by
    rw [cmpT, cmpT_id (by omega) fun j h0 h1 => h j h0 (by omega), if_neg (fun hh => h i hh.1 (by omega) hh.2), List.take_succ_eq_append_getElem (show i < zs.length by omega), List.getD_eq_getElem?_getD, List.getElem?_eq_getElem (by omega)]; rfl
theorem getI {l : List Int} {k : Nat} (h : k < l.length) : l.getD k 0 = l[k] := by rw [List.getD_eq_getElem?_getD, List.getElem?_eq_getElem h]; rfl
set_option maxHeartbeats 2000000 in
theorem slCompact (g : Nat) (zs : List Int) (sp : List Value) (cap : Nat) (w0 : World) (H0 : SH w0 [g] w0 [⟨g, 3, zs.map I ++ sp⟩]) (hl : zs.length ≤ 100000) (hcap : zs.length ≤ cap) :
    Calls Try.prog 39 #[.slice (some ⟨g, 0, none⟩) zs.length cap] w0 fun e w' => ∃ sp', e = .returned (.slice (some ⟨g, 0, none⟩) (cmpT zs zs.length).length cap) ∧ SH w0 [g] w' [⟨g, 3, (cmpT zs zs.length).map I ++ sp'⟩] := by
  have H := H0
  have hcl : ∀ (cur : List Int) (w : World), SH w0 [g] w [⟨g, 3, cur.map I ++ sp⟩] → ∀ k (h : k < cur.length), w.cell? ⟨g, 0 + k, none⟩ = some (I cur[k]) := fun cur w H k hk => by
    obtain ⟨b, o, e, hc⟩ := OnesAt.own (enc := I) (l := cur) (post := sp) H 0 rfl rfl k hk
    cases e; exact hc
  refine Calls.ofWP Try.func39 rfl Try.results39 Try.ntmps39 rfl ?_
  refine WP.seq ?_
  refine WP.region ?_
  refine OPS.val rfl rfl rfl (Ev.asS rfl) ?_
  refine OPS.nil ?_
  refine WP.seq ?_
  refine WP.seq ?_
  refine WP.region ?_
  refine OPS.val rfl rfl rfl (Ev.mvS rfl) ?_
  refine OPS.val rfl rfl rfl (Ev.len (el_run rfl) rfl) ?_
  refine OPS.val rfl rfl rfl (Ev.lss rfl rfl) ?_
  refine OPS.nil ?_
  refine WP.cond rfl (fun hc1 => ?_) (fun hc1 => ?_)
  · refine WP.seq ?_
    refine WP.region ?_
    refine OPS.val rfl rfl rfl (Ev.mvS rfl) ?_
    refine OPS.val rfl rfl rfl (Ev.asS rfl) ?_
    refine OPS.nil ?_
    refine WP.ret ⟨_, rfl, ?_⟩
    have h : zs.length < 2 := by simp at hc1; omega
    have hid : cmpT zs zs.length = zs := by rw [cmpT_id (Nat.le_refl _) (fun j h0 h1 => by omega), List.take_length]
    rw [hid]
    exact ⟨sp, rfl, H⟩
  have h2 : 2 ≤ zs.length := by simp at hc1; omega
  refine WP.skip ?_
  refine WP.seq ?_
  refine WP.seq ?_
  refine WP.region ?_
  refine OPS.val rfl rfl rfl (Ev.asI rfl) ?_
  refine OPS.nil ?_
  refine WP.block ?_
  refine WP.loop [2, 3, 4, 5, 10, 11, 12, 13, 14, 15, 16, 17, 18, 19, 20, 21, 22, 23, 24, 25, 26, 27, 28, 29, 30, 31, 32, 33, 34, 35, 36, 37, 38, 39, 40, 41, 42, 43, 44, 45, 46, 47, 48, 49, 50, 51, 52, 53, 54, 55, 56, 57, 58, 59] (fun k e w' => ∃ (q : Nat), q + 1 + k = zs.length ∧ e 3 = I ((q + 1 : Nat) : Int) ∧ (∀ j, 0 < j → j < q + 1 → zs.getD j 0 ≠ zs.getD (j - 1) 0) ∧ SH w0 [g] w' [⟨g, 3, zs.map I ++ sp⟩]) ((zs.length - 1)) (⟨0, by omega, rfl, fun _ _ _ => by omega, H⟩) ?_
  clear H
  rintro k u w ⟨q, hk, h3, hall, H⟩
  refine WP.know (t := 3) h3 ?_
  refine WP.seq ?_
  refine WP.seq ?_
  refine WP.region ?_
  refine OPS.val rfl rfl rfl (Ev.mvI rfl) ?_
  refine OPS.val rfl rfl rfl (Ev.mvS rfl) ?_
  refine OPS.val rfl rfl rfl (Ev.len (el_run rfl) rfl) ?_
  refine OPS.val rfl rfl rfl (Ev.lss rfl rfl) ?_
  refine OPS.nil ?_
  refine WP.cond rfl (fun hc4 => ?_) (fun hc4 => ?_)
  · have hlt : q + 1 < zs.length := by simp at hc4; omega
    have hgq := getI (show q < zs.length by omega)
    have hgq1 := getI hlt
    refine WP.skip ?_
    refine WP.seq ?_
    refine WP.block ?_
    refine WP.seq ?_
    refine WP.rstill mixed (by kernel_rfl) H ?_
    clear H; intro w hbw6 H
    have hx := hcl zs w H (q + 1) hlt
    have hy := hcl zs w H q (by omega)
    refine OPS.val rfl rfl rfl (Ev.mvS rfl) ?_
    refine OPS.val rfl rfl rfl (Ev.mvI rfl) ?_
    refine OPS.val rfl rfl rfl ((by exact Ev.indexAddr1 (el_run rfl) (size_run rfl) rfl rfl rfl (by omega))) ?_
    refine OPS.val rfl rfl rfl (Ev.load1 (agg_run rfl) rfl (by assumption)) ?_
    refine OPS.val rfl rfl rfl (Ev.mvS rfl) ?_
    refine OPS.val rfl rfl rfl (Ev.mvI rfl) ?_
    refine OPS.val rfl rfl rfl (Ev.sub rfl rfl (by unfold fits; omega)) ?_
    rw [show (((q + 1 : Nat) : Int) - 1) = (q : Int) by omega]
    refine OPS.val rfl rfl rfl ((by exact Ev.indexAddr1 (el_run rfl) (size_run rfl) rfl rfl rfl (by omega))) ?_
    refine OPS.val rfl rfl rfl (Ev.load1 (agg_run rfl) rfl (by assumption)) ?_
    refine OPS.val rfl rfl rfl (Ev.eql rfl rfl) ?_
    refine OPS.nil_s ?_
    refine WP.cond rfl (fun hc6 => ?_) (fun hc6 => ?_)
    · have heq : zs[q + 1] = zs[q] := by simpa using hc6
      refine WP.seq ?_
      refine WP.region ?_
      refine OPS.val rfl rfl rfl (Ev.mvS rfl) ?_
      refine OPS.val rfl rfl rfl (Ev.mvI rfl) ?_
      refine OPS.val rfl rfl rfl (Ev.sliceFrom2 (j := q + 1) (el_run rfl) (size_run rfl) rfl rfl rfl (by omega) (by omega)) ?_
      refine OPS.val rfl rfl rfl (Ev.asS rfl) ?_
      refine OPS.nil ?_
      refine WP.seq ?_
      refine WP.seq ?_
      refine WP.region ?_
      refine OPS.val rfl rfl rfl (Ev.asI rfl) ?_
      refine OPS.nil ?_
      refine WP.block ?_
      refine WP.loop [3, 5, 29, 30, 31, 32, 33, 34, 35, 36, 37, 38, 39, 40, 41, 42, 43, 44, 45, 46, 47, 48, 49, 50, 51, 52, 53] (fun k e w' => ∃ (m i : Nat) (cur : List Int), i + 1 + k = zs.length ∧ e 5 = I ((i - q : Nat) : Int) ∧ q + 1 ≤ i ∧ m ≤ i ∧ e 3 = I m ∧ m = (cmpT zs (i + 1)).length ∧ cur.length = zs.length ∧ cur.take m = cmpT zs (i + 1) ∧ cur.drop i = zs.drop i ∧ SH w0 [g] w' [⟨g, 3, cur.map I ++ sp⟩]) ((zs.length - 1 - (q + 1))) (⟨q + 1, q + 1, zs, by omega, by rw [show q + 1 - q = 1 by omega]; rfl, by omega, by omega, rfl, by rw [cmpT, if_pos ⟨by omega, by rw [hgq1, show q + 1 - 1 = q by omega, hgq]; exact heq⟩, List.append_nil, cmpT_id (by omega) hall]; simp; omega, rfl, by rw [cmpT, if_pos ⟨by omega, by rw [hgq1, show q + 1 - 1 = q by omega, hgq]; exact heq⟩, List.append_nil, cmpT_id (by omega) hall], rfl, H⟩) ?_
      clear H
      rintro k2 u2 w ⟨m, i, cur, hk2, h5, hqi, hmi, h3', hml, hcl2, htk, hdr, H⟩
      refine WP.know (t := 5) h5 (WP.know (t := 3) h3' ?_)
      refine WP.seq ?_
      refine WP.seq ?_
      refine WP.region ?_
      refine OPS.val rfl rfl rfl (Ev.mvI rfl) ?_
      refine OPS.val rfl rfl rfl (Ev.mvS rfl) ?_
      refine OPS.val rfl rfl rfl (Ev.len (el_run rfl) rfl) ?_
      refine OPS.val rfl rfl rfl (Ev.lss rfl rfl) ?_
      refine OPS.nil ?_
      refine WP.cond rfl (fun hc9 => ?_) (fun hc9 => ?_)
      · have hlt2 : i + 1 < zs.length := by simp at hc9; omega
        have hgi := getI (show i < zs.length by omega)
        have hgi1 := getI hlt2
        have hci : cur[i]'(by omega) = zs[i] := by
          have := congrArg (fun l => l[0]?) hdr
          simp only [List.getElem?_drop, Nat.add_zero] at this
          rw [List.getElem?_eq_getElem (by omega), List.getElem?_eq_getElem (by omega)] at this
          exact Option.some.inj this
        have hci1 : cur[i + 1]'(by omega) = zs[i + 1] := by
          have := congrArg (fun l => l[1]?) hdr
          simp only [List.getElem?_drop] at this
          rw [List.getElem?_eq_getElem (by omega), List.getElem?_eq_getElem (by omega)] at this
          exact Option.some.inj this
        have hnx : cmpT zs (i + 1 + 1) = cmpT zs (i + 1) ++ if zs[i + 1] = zs[i] then [] else [zs[i + 1]] := by
          rw [cmpT, hgi1, show i + 1 - 1 = i by omega, hgi]
          by_cases hh : zs[i + 1] = zs[i]
          · rw [if_pos ⟨by omega, hh⟩, if_pos hh]
          · rw [if_neg (fun x => hh x.2), if_neg hh]
        have hiq : 0 + (q + 1) * 1 + (i - q) = 0 + (i + 1) := by omega
        have hiq2 : 0 + (q + 1) * 1 + (i - q - 1) = 0 + i := by omega
        refine WP.skip ?_
        refine WP.seq ?_
        refine WP.block ?_
        refine WP.seq ?_
        refine WP.rstill mixed (by kernel_rfl) H ?_
        clear H; intro w hbw11 H
        have hx := hcl cur w H (i + 1) (by omega)
        have hy := hcl cur w H i (by omega)
        rw [hci1, ← hiq] at hx
        rw [hci, ← hiq2] at hy
        refine OPS.val rfl rfl rfl (Ev.mvS rfl) ?_
        refine OPS.val rfl rfl rfl (Ev.mvI rfl) ?_
        refine OPS.val rfl rfl rfl ((by exact Ev.indexAddr1 (el_run rfl) (size_run rfl) rfl rfl rfl (by omega))) ?_
        refine OPS.val rfl rfl rfl (Ev.load1 (agg_run rfl) rfl (by assumption)) ?_
        refine OPS.val rfl rfl rfl (Ev.mvS rfl) ?_
        refine OPS.val rfl rfl rfl (Ev.mvI rfl) ?_
        refine OPS.val rfl rfl rfl (Ev.sub rfl rfl (by unfold fits; omega)) ?_
        rw [show (((i - q : Nat) : Int) - 1) = ((i - q - 1 : Nat) : Int) by omega]
        refine OPS.val rfl rfl rfl ((by exact Ev.indexAddr1 (el_run rfl) (size_run rfl) rfl rfl rfl (by omega))) ?_
        refine OPS.val rfl rfl rfl (Ev.load1 (agg_run rfl) rfl (by assumption)) ?_
        refine OPS.val rfl rfl rfl (Ev.neq rfl rfl) ?_
        refine OPS.nil_s ?_
        refine WP.cond rfl (fun hc11 => ?_) (fun hc11 => ?_)
        · refine WP.seq ?_
          have hne : zs[i + 1] ≠ zs[i] := by simpa using hc11
          rw [if_neg hne] at hnx
          have hx' := hcl cur w H (i + 1) (by omega)
          rw [hci1, ← hiq] at hx'
          refine WP.region ?_
          refine OPS.val rfl rfl rfl (Ev.mvS rfl) ?_
          refine OPS.val rfl rfl rfl (Ev.mvI rfl) ?_
          refine OPS.val rfl rfl rfl (Ev.mvS rfl) ?_
          refine OPS.val rfl rfl rfl (Ev.mvI rfl) ?_
          refine OPS.val rfl rfl rfl ((by exact Ev.indexAddr1 (el_run rfl) (size_run rfl) rfl rfl rfl (by omega))) ?_
          refine OPS.val rfl rfl rfl (Ev.load1 (agg_run rfl) rfl (by assumption)) ?_
          refine OPS.val rfl rfl rfl ((by exact Ev.indexAddr1 (el_run rfl) (size_run rfl) rfl rfl rfl (by omega))) ?_
          refine OPS.store (b := ⟨g, 3, cur.map I ++ sp⟩) 0 (0 + m) rfl rfl rfl (size_run rfl) rfl (cI (n := zs[i + 1]) rfl) rfl rfl H rfl (by simp; omega) ?_
          clear H; intro w H
          simp only [List.set_cons_zero] at H
          rw [Nat.zero_add, putL_pre (enc := I) cur sp m zs[i + 1] (by omega)] at H
          refine OPS.nil ?_
          refine WP.region ?_
          refine OPS.val rfl rfl rfl (Ev.mvI rfl) ?_
          refine OPS.val rfl rfl rfl (Ev.add rfl rfl (by unfold fits; omega)) ?_
          refine OPS.val rfl rfl rfl (Ev.asI rfl) ?_
          refine OPS.nil ?_
          refine WP.region ?_
          refine OPS.val rfl rfl rfl (Ev.mvI rfl) ?_
          refine OPS.val rfl rfl rfl (Ev.add rfl rfl (by unfold fits; omega)) ?_
          refine OPS.val rfl rfl rfl (Ev.asI rfl) ?_
          refine OPS.nil ?_
          first
            | exact ⟨(by repeat (first | exact Agree.refl _ _ | exact Agree.mix _ _ _ | refine Agree.upd rfl ?_ | refine Agree.mix2 rfl ?_)), k2 - 1, by omega, m, i + 1, cur, by omega, (by rw [show i + 1 - q = (i - q) + 1 by omega, Int.natCast_add]; rfl), by omega, by omega, rfl, by rw [hnx]; exact hml, hcl2, by rw [hnx]; exact htk, by rw [← List.drop_drop, ← List.drop_drop, hdr], H⟩
            | exact ⟨(by repeat (first | exact Agree.refl _ _ | exact Agree.mix _ _ _ | refine Agree.upd rfl ?_ | refine Agree.mix2 rfl ?_)), k2 - 1, by omega, m + 1, i + 1, cur.set m zs[i + 1], by omega, (by rw [show i + 1 - q = (i - q) + 1 by omega, Int.natCast_add]; rfl), by omega, by omega, rfl, by rw [hnx, List.length_append, ← hml]; rfl, by rw [List.length_set]; exact hcl2, by rw [hnx, List.take_succ_eq_append_getElem (by rw [List.length_set]; omega), List.take_set_of_le (Nat.le_refl _), htk, List.getElem_set_self], by rw [List.drop_set_of_lt (by omega), ← List.drop_drop, ← List.drop_drop, hdr], H⟩
        have heq2 : zs[i + 1] = zs[i] := by simpa using hc11
        rw [if_pos heq2, List.append_nil] at hnx
        refine WP.skip ?_
        refine WP.region ?_
        refine OPS.val rfl rfl rfl (Ev.mvI rfl) ?_
        refine OPS.val rfl rfl rfl (Ev.add rfl rfl (by unfold fits; omega)) ?_
        refine OPS.val rfl rfl rfl (Ev.asI rfl) ?_
        refine OPS.nil ?_
        first
          | exact ⟨(by repeat (first | exact Agree.refl _ _ | exact Agree.mix _ _ _ | refine Agree.upd rfl ?_ | refine Agree.mix2 rfl ?_)), k2 - 1, by omega, m, i + 1, cur, by omega, (by rw [show i + 1 - q = (i - q) + 1 by omega, Int.natCast_add]; rfl), by omega, by omega, rfl, by rw [hnx]; exact hml, hcl2, by rw [hnx]; exact htk, by rw [← List.drop_drop, ← List.drop_drop, hdr], H⟩
          | exact ⟨(by repeat (first | exact Agree.refl _ _ | exact Agree.mix _ _ _ | refine Agree.upd rfl ?_ | refine Agree.mix2 rfl ?_)), k2 - 1, by omega, m + 1, i + 1, cur.set m zs[i + 1], by omega, (by rw [show i + 1 - q = (i - q) + 1 by omega, Int.natCast_add]; rfl), by omega, by omega, rfl, by rw [hnx, List.length_append, ← hml]; rfl, by rw [List.length_set]; exact hcl2, by rw [hnx, List.take_succ_eq_append_getElem (by rw [List.length_set]; omega), List.take_set_of_le (Nat.le_refl _), htk, List.getElem_set_self], by rw [List.drop_set_of_lt (by omega), ← List.drop_drop, ← List.drop_drop, hdr], H⟩
      have hi : i + 1 = zs.length := by simp at hc9; omega
      rw [hi] at htk hml
      refine WP.exit ?_
      refine XB.hit ?_
      refine WP.seq ?_
      refine WP.region ?_
      refine OPS.val rfl rfl rfl (Ev.mvS rfl) ?_
      refine OPS.val rfl rfl rfl (Ev.mvI rfl) ?_
      refine OPS.val rfl rfl rfl (Ev.sliceFrom2 (j := m) (el_run rfl) (size_run rfl) rfl rfl rfl (by omega) (by omega)) ?_
      refine OPS.clear (b := ⟨g, 3, cur.map I ++ sp⟩) 0 (0 + m * 1) rfl rfl rfl (zs := [I 0]) (el_run rfl) (zero_run rfl) rfl (by decide) rfl rfl (by omega) H rfl (by simp; omega) ?_
      clear H; intro w H
      simp only [List.set_cons_zero] at H
      refine OPS.nil ?_
      refine WP.seq ?_
      refine WP.region ?_
      refine OPS.val rfl rfl rfl (Ev.mvS rfl) ?_
      refine OPS.val rfl rfl rfl (Ev.mvI rfl) ?_
      refine OPS.val rfl rfl rfl (Ev.sliceTo (j := m) (el_run rfl) ⟨1, size_run rfl⟩ rfl rfl rfl (by omega)) ?_
      refine OPS.val rfl rfl rfl (Ev.asS rfl) ?_
      refine OPS.nil ?_
      refine WP.ret ⟨_, rfl, ?_⟩
      refine ⟨(putL (cur.map I ++ sp) (0 + m * 1) (mkL (zs.length - m) [I 0])).drop m, by rw [← hml]; rfl, ?_⟩
      have hpt : ∀ (vs cs : List Value) (k : Nat), m ≤ k → (putL cs k vs).take m = cs.take m := fun vs => by
        induction vs with
        | nil => intro cs k _; rfl
        | cons v vs ih =>
          intro cs k hk
          rw [putL, ih _ _ (by omega), List.take_set_of_le (by omega)]
      have hfin : putL (cur.map I ++ sp) (0 + m * 1) (mkL (zs.length - m) [I 0]) = (cmpT zs zs.length).map I ++ (putL (cur.map I ++ sp) (0 + m * 1) (mkL (zs.length - m) [I 0])).drop m := by
        conv => lhs; rw [← List.take_append_drop m (putL (cur.map I ++ sp) (0 + m * 1) (mkL (zs.length - m) [I 0]))]
        rw [hpt _ _ _ (by omega), List.take_append_of_le_length (by simp; omega), ← List.map_take, htk]
      rw [← hfin]
      exact H
    have hne : zs[q + 1] ≠ zs[q] := by simpa using hc6
    refine WP.skip ?_
    refine WP.region ?_
    refine OPS.val rfl rfl rfl (Ev.mvI rfl) ?_
    refine OPS.val rfl rfl rfl (Ev.add rfl rfl (by unfold fits; omega)) ?_
    refine OPS.val rfl rfl rfl (Ev.asI rfl) ?_
    refine OPS.nil ?_
    exact ⟨(by repeat (first | exact Agree.refl _ _ | exact Agree.mix _ _ _ | refine Agree.upd rfl ?_ | refine Agree.mix2 rfl ?_)), k - 1, by omega, q + 1, by omega, rfl, (fun j h0 h1 => by
      by_cases hj : j < q + 1
      · exact hall j h0 hj
      · obtain rfl : j = q + 1 := by omega
        rw [hgq1, show q + 1 - 1 = q by omega, hgq]; exact hne), H⟩
  refine WP.exit ?_
  refine XB.hit ?_
  refine WP.seq ?_
  refine WP.region ?_
  refine OPS.val rfl rfl rfl (Ev.mvS rfl) ?_
  refine OPS.val rfl rfl rfl (Ev.asS rfl) ?_
  refine OPS.nil ?_
  refine WP.ret ⟨_, rfl, ?_⟩
  have hq : q + 1 = zs.length := by simp at hc4; omega
  have hid : cmpT zs zs.length = zs := by rw [cmpT_id (Nat.le_refl _) (fun j h0 h1 => hall j h0 (by omega)), List.take_length]
  rw [hid]
  exact ⟨sp, rfl, H⟩
theorem cmpT_mem {zs : List Int} : ∀ {i : Nat}, i ≤ zs.length → ∀ x, x ∈ cmpT zs i ↔ x ∈ zs.take i
  | 0, _, x => by simp [cmpT]
  | i + 1, hi, x => by
    have ih := cmpT_mem (zs := zs) (i := i) (by omega) x
    rw [cmpT, List.mem_append, ih, List.take_succ_eq_append_getElem (show i < zs.length by omega), List.mem_append, getI (show i < zs.length by omega)]
    by_cases hc : 0 < i ∧ zs[i] = zs.getD (i - 1) 0
    · rw [if_pos hc]
      simp only [List.not_mem_nil, or_false, List.mem_singleton]
      refine ⟨.inl, fun h => ?_⟩
      rcases h with h | h
      · exact h
      · rw [h, hc.2, getI (show i - 1 < zs.length by omega)]
        exact List.mem_take_iff_getElem.2 ⟨i - 1, by omega, rfl⟩
    · rw [if_neg hc]
theorem cmpT_sorted {zs : List Int} (hs : zs.Pairwise fun x y => x ≤ y) : ∀ {i : Nat}, i ≤ zs.length → (cmpT zs i).Pairwise fun x y => x < y
  | 0, _ => by simp [cmpT]
  | i + 1, hi => by
    rw [cmpT, List.pairwise_append]
    refine ⟨cmpT_sorted hs (by omega), by split <;> simp, fun x hx y hy => ?_⟩
    rw [cmpT_mem (by omega)] at hx
    split at hy
    · cases hy
    · rename_i hc
      rw [getI (show i < zs.length by omega)] at hc hy
      rw [List.mem_singleton.1 hy]
      obtain ⟨j, hj, rfl⟩ := List.mem_take_iff_getElem.1 hx
      have hp := List.pairwise_iff_getElem.1 hs
      have h1 : zs[j] ≤ zs[i - 1]'(by omega) := by
        by_cases hji : j = i - 1
        · subst hji; exact Int.le_refl _
        · exact hp j (i - 1) (by omega) (by omega) (by omega)
      have h2 : zs[i - 1]'(by omega) ≤ zs[i] := hp (i - 1) i (by omega) (by omega) (by omega)
      rw [getI (show i - 1 < zs.length by omega)] at hc
      have : ¬ zs[i] = zs[i - 1]'(by omega) := fun h => hc ⟨by omega, h⟩
      omega
def srt (l : List Int) : List Int := l.mergeSort fun x y => decide (x ≤ y)
theorem srt_perm (l : List Int) : (srt l).Perm l := List.mergeSort_perm l _
theorem srt_len (l : List Int) : (srt l).length = l.length := (srt_perm l).length_eq
theorem srt_sorted (l : List Int) : (srt l).Pairwise fun x y => x ≤ y := by
  have := List.pairwise_mergeSort (le := fun x y : Int => decide (x ≤ y)) (fun a b c h1 h2 => by simp at *; omega) (fun a b => by simp; omega) l
  exact this.imp fun h => by simpa using h
theorem sortOwn (g : Nat) (zs : List Int) (sp : List Value) (cap : Nat) (w0 : World) (hb : w0.heap[g]? = some (.cells (zs.map I ++ sp).toArray 3 (0, 0))) (hlen : zs.length ≤ 1000000) :
    Calls Try.prog 62 #[.slice (some ⟨g, 0, none⟩) zs.length cap] w0 fun e w' => e = .returned (.tuple #[]) ∧ SH w0 [g] w' [⟨g, 3, (srt zs).map I ++ sp⟩] := by
  have hg : g < w0.heap.size := (Array.getElem?_eq_some_iff.1 hb).1
  have hH : Sort.Holds (Value.int .i64) w0 g 0 zs.toArray := holds_of_blockI hb (by simp)
  refine (Try.slices_Sort_int g 0 cap zs w0 hH hg (by omega)).mono ?_
  rintro e w' ⟨rfl, n, os, rfl⟩
  have hgr := grownBy_sortedI (w := w0) (g := g) (n := n) (os := os) (srt zs).toArray
  have hh := heap_sortedI (w := w0) (n := n) (os := os) (srt zs).toArray hb
  have hl := srt_len zs
  have hcells : Sort.putCells (Value.int .i64) 0 (srt zs).toArray (zs.map I ++ sp).toArray = ((srt zs).map I ++ sp).toArray := by
    apply Array.ext_getElem?
    intro k
    simp only [Sort.putCells, Array.getElem?_mapIdx, List.getElem?_toArray]
    by_cases hk : k < zs.length
    · have h1 : k < (zs.map I).length := by simpa using hk
      have h2 : k < ((srt zs).map I).length := by simp; omega
      rw [List.getElem?_append_left h1, List.getElem?_append_left h2, List.getElem?_eq_getElem h1, List.getElem?_eq_getElem h2]
      simp [hl, hk, show k < (srt zs).length by omega]
    · rw [List.getElem?_append_right (by simp; omega), List.getElem?_append_right (by simp; omega)]
      simp only [List.length_map, hl]
      cases sp[k - zs.length]? with
      | none => rfl
      | some v => simp [hl, hk]
  rw [hcells] at hh
  exact ⟨rfl, hgr.os, hgr.tape, hgr.output, hgr.size, fun k hk hS => hgr.block k hk (by simp at hS; simpa using hS), fun b hb => by
    obtain rfl : b = ⟨g, 3, (srt zs).map I ++ sp⟩ := by simpa using hb
    exact hh, fun b hb => by
    obtain rfl : b = ⟨g, 3, (srt zs).map I ++ sp⟩ := by simpa using hb
    exact .inr (by simp), by simp⟩

/-! ### the values of a slice, sorted -/
theorem ints_it {w : World} {A : Option Addr} {l : List Int} (h : IntsAt w A l) : It.Ints w.heap.size w A l := by
  cases l with
  | nil => exact .inl rfl
  | cons x l =>
    obtain ⟨b, o, rfl, h0⟩ := h 0 (by simp)
    refine .inr ⟨b, o, rfl, World.block_lt_of_cell? w _ h0, fun j hj => ?_⟩
    obtain ⟨b', o', e, hc⟩ := h j hj
    cases e
    rw [List.getElem?_eq_getElem hj]
    exact hc
theorem slAppendSeq (g : Nat) (A : Option Addr) (l : List Int) (cap : Nat) (w0 : World) (hz : IntsAt w0 A l) (hl : l.length ≤ 1000) (hg : w0.heap[g]? = some (.cells #[.slice A l.length cap] 29 (0, 0))) :
    Calls Try.prog 72 #[.slice none 0 0, .func (.func 63) #[] #[.pointer (some ⟨g, 0, none⟩)]] w0 fun e w' => ∃ (A' : Option Addr) (c : Nat) (Lo : List Blk), e = .returned (.slice A' l.length c) ∧ OwnS A' c l.length (l.map I) 3 1 Lo ∧ SH w0 [] w' Lo := by
  have hlt : g < w0.heap.size := (Array.getElem?_eq_some_iff.1 hg).1
  refine (callsIn_wide.1 (It.appendSeq 3 (by omega) g A cap l (by unfold maxLen; omega) (by omega) w0 hlt (by simp [World.cell?, hg]) (ints_it hz))).mono ?_
  rintro e w' ⟨v, rfl, hO, _, hB⟩
  rcases hO.2 with ⟨rfl, h0⟩ | ⟨g', c, cur, rfl, h1, h2, h3, h4, h5, h6⟩
  · have : l = [] := List.eq_nil_of_length_eq_zero h0
    subst this
    exact ⟨none, 0, [], rfl, OwnS.nil, hB.os, hB.tape, hB.output, hB.size, fun k hk _ => hB.block k hk, by simp, by simp, by simp⟩
  · have hcur : cur.toList = l.map I ++ cur.toList.drop l.length := by
      have := List.take_append_drop l.length cur.toList
      rw [Nat.mul_one] at h6
      rw [h6] at this
      exact this.symm
    refine ⟨some ⟨g', 0, none⟩, c, [⟨g', 3, cur.toList⟩], rfl, ⟨by simp, .inr ⟨g', cur.toList.drop l.length, rfl, by rw [← hcur], h3, h4, by rw [← hcur]; simpa using h5⟩⟩, hB.os, hB.tape, hB.output, hB.size, fun k hk _ => hB.block k hk, fun b hb => ?_, fun b hb => ?_, by simp⟩
    · obtain rfl : b = ⟨g', 3, cur.toList⟩ := by simpa using hb
      simpa using h2
    · obtain rfl : b = ⟨g', 3, cur.toList⟩ := by simpa using hb
      exact .inl h1
theorem slCollect (g : Nat) (A : Option Addr) (l : List Int) (cap : Nat) (w0 : World) (hz : IntsAt w0 A l) (hl : l.length ≤ 1000) (hg : w0.heap[g]? = some (.cells #[.slice A l.length cap] 29 (0, 0))) :
    Calls Try.prog 61 #[.func (.func 63) #[] #[.pointer (some ⟨g, 0, none⟩)]] w0 fun e w' => ∃ (A' : Option Addr) (c : Nat) (Lo : List Blk), e = .returned (.slice A' l.length c) ∧ OwnS A' c l.length (l.map I) 3 1 Lo ∧ SH w0 [] w' Lo := by
  have H := SH.refl w0
  refine Calls.ofWP Try.func61 rfl Try.results61 Try.ntmps61 rfl ?_
  refine WP.seq ?_
  refine WP.region ?_
  refine OPS.val rfl rfl rfl (Ev.asS rfl) ?_
  refine OPS.nil ?_
  refine WP.seq ?_
  refine WP.region ?_
  refine OPS.val rfl rfl rfl (Ev.mvF rfl) ?_
  refine OPS.call (d := some 4) rfl rfl rfl (EvC.func (fun_run rfl)) (slAppendSeq g A l cap w0 hz hl hg) ?_
  rintro _ w ⟨A', c, Lo, rfl, hO, Hc⟩
  refine ⟨_, rfl, ?_⟩
  replace H := Hc
  refine OPS.val rfl rfl rfl (Ev.asS rfl) ?_
  refine OPS.nil ?_
  refine WP.ret ⟨_, rfl, ?_⟩
  exact ⟨A', c, Lo, rfl, hO, H⟩
theorem sortS (A : Option Addr) (c : Nat) (zs : List Int) (Lo : List Blk) (w0 : World) (hl : zs.length ≤ 1000) (hO : OwnS A c zs.length (zs.map I) 3 1 Lo) (H0 : SH w0 (Lo.map (·.g)) w0 Lo) :
    Calls Try.prog 62 #[.slice A zs.length c] w0 fun e w' => ∃ Lo', e = .returned (.tuple #[]) ∧ OwnS A c zs.length ((srt zs).map I) 3 1 Lo' ∧ SH w0 (Lo.map (·.g)) w' Lo' := by
  have hsl := srt_len zs
  rcases hO.form with ⟨rfl, h0, rfl, rfl⟩ | ⟨g, sp, rfl, rfl, h1, h2, h3⟩
  · have : zs = [] := List.eq_nil_of_length_eq_zero h0
    subst this
    refine (Try.slices_Sort_int_none none 0 w0).mono ?_
    rintro e w' ⟨rfl, rfl⟩
    exact ⟨[], rfl, ⟨by simp [srt], .inl ⟨rfl, rfl, rfl, rfl⟩⟩, H0⟩
  · refine (sortOwn g zs sp c w0 (H0.own ⟨g, 3, zs.map I ++ sp⟩ (by simp)) (by omega)).mono ?_
    rintro e w' ⟨rfl, Hc⟩
    exact ⟨_, rfl, ⟨by simp [hsl], .inr ⟨g, sp, rfl, rfl, h1, h2, by simpa [hsl] using h3⟩⟩, Hc⟩
theorem slSorted (g : Nat) (A : Option Addr) (l : List Int) (cap : Nat) (w0 : World) (hz : IntsAt w0 A l) (hl : l.length ≤ 1000) (hg : w0.heap[g]? = some (.cells #[.slice A l.length cap] 29 (0, 0))) :
    Calls Try.prog 37 #[.func (.func 63) #[] #[.pointer (some ⟨g, 0, none⟩)]] w0 fun e w' => ∃ (A' : Option Addr) (c : Nat) (Lo : List Blk), e = .returned (.slice A' l.length c) ∧ OwnS A' c l.length ((srt l).map I) 3 1 Lo ∧ SH w0 [] w' Lo := by
  have H := SH.refl w0
  refine Calls.ofWP Try.func37 rfl Try.results37 Try.ntmps37 rfl ?_
  refine WP.seq ?_
  refine WP.region ?_
  refine OPS.val rfl rfl rfl (Ev.asS rfl) ?_
  refine OPS.nil ?_
  refine WP.seq ?_
  refine WP.region ?_
  refine OPS.val rfl rfl rfl (Ev.mvF rfl) ?_
  refine OPS.call (d := some 5) rfl rfl rfl (EvC.func (fun_run rfl)) (slCollect g A l cap w0 hz hl hg) ?_
  rintro _ w ⟨A', c, Lo, rfl, hO, Hc⟩
  refine ⟨_, rfl, ?_⟩
  replace H := Hc
  clear Hc
  refine OPS.val rfl rfl rfl (Ev.asS rfl) ?_
  refine OPS.nil ?_
  refine WP.seq ?_
  refine WP.region ?_
  refine OPS.val rfl rfl rfl (Ev.mvS rfl) ?_
  refine OPS.call (d := some 7) rfl rfl rfl (EvC.func (fun_run rfl)) (sortS A' c l Lo w hl hO (H.restart (List.Sublist.refl _))) ?_
  rintro _ w ⟨Lo', rfl, hO', Hc⟩
  refine ⟨_, rfl, ?_⟩
  replace H := SH.call (L1 := []) (Lv := Lo) H Hc
  refine OPS.nil ?_
  refine WP.seq ?_
  refine WP.region ?_
  refine OPS.val rfl rfl rfl (Ev.mvS rfl) ?_
  refine OPS.val rfl rfl rfl (Ev.asS rfl) ?_
  refine OPS.nil ?_
  refine WP.ret ⟨_, rfl, ?_⟩
  exact ⟨A', c, Lo', rfl, hO', H⟩
theorem slValues (A : Option Addr) (n cap : Nat) (w0 : World) :
    Calls Try.prog 38 #[.slice A n cap] w0 fun e w' => ∃ g, e = .returned (.func (.func 63) #[] #[.pointer (some ⟨g, 0, none⟩)]) ∧ SH w0 [] w' [⟨g, 29, [.slice A n cap]⟩] := by
  have H := SH.refl w0
  refine Calls.ofWP Try.func38 rfl Try.results38 Try.ntmps38 rfl ?_
  refine WP.seq ?_
  refine WP.region ?_
  refine OPS.box rfl rfl rfl rfl (cS rfl) H ?_
  clear H; intro g1 w H
  refine OPS.val rfl rfl rfl (Ev.assign) ?_
  refine OPS.nil ?_
  refine WP.seq ?_
  refine WP.region ?_
  refine OPS.val rfl rfl rfl (Ev.makeFunc) ?_
  refine OPS.val rfl rfl rfl (Ev.asF rfl) ?_
  refine OPS.nil ?_
  refine WP.ret ⟨_, rfl, ?_⟩
  exact ⟨_, rfl, H⟩
end Go.Proofs.Ytfddebpeiilohaa
