/-
  Walks: Reverse of a part of a list; all orders of a list, in order, for whatever visitor.
-/
import Derived.Test.YtfddebpeiilohaaK3
set_option linter.all false
namespace Go.Proofs.Ytfddebpeiilohaa
open Go Go.W Go.RowKit

theorem revOwn (g : Nat) (pre zs : List Int) (sp : List Value) (cap : Nat) (w0 : World) (hb : w0.heap[g]? = some (.cells ((pre ++ zs).map I ++ sp).toArray 3 (0, 0))) (hlen : zs.length ≤ 1000000) :
    Calls Try.prog 64 #[.slice (some ⟨g, pre.length, none⟩) zs.length cap] w0 fun e w' => e = .returned (.tuple #[]) ∧ SH w0 [g] w' [⟨g, 3, (pre ++ zs.reverse).map I ++ sp⟩] := by
  have hg : g < w0.heap.size := (Array.getElem?_eq_some_iff.1 hb).1
  have hH : Sort.Holds (Value.int .i64) w0 g pre.length zs.toArray := fun j hj => by
    have hj' : j < zs.length := by simpa using hj
    refine ⟨?_, by simp [World.frozen?, hb]⟩
    simp only [World.cell?, hb]
    simp only [Option.isSome_none, Bool.false_eq_true, if_false]
    rw [← Array.getElem?_toList]
    simp [hj', List.getElem?_append]
  refine (Try.slices_Reverse_int g pre.length cap zs w0 hH (by omega)).mono ?_
  rintro e w' ⟨rfl, n, rfl⟩
  have hcells : Sort.putCells (Value.int .i64) pre.length zs.reverse.toArray ((pre ++ zs).map I ++ sp).toArray = ((pre ++ zs.reverse).map I ++ sp).toArray := by
    apply Array.ext_getElem?
    intro k
    simp only [Sort.putCells, Array.getElem?_mapIdx, List.getElem?_toArray, List.map_append, List.append_assoc]
    by_cases h1 : k < pre.length
    · rw [List.getElem?_append_left (l₁ := pre.map I) (by simpa using h1), List.getElem?_append_left (l₁ := pre.map I) (by simpa using h1)]
      simp [h1, show ¬ pre.length ≤ k by omega]
    · rw [List.getElem?_append_right (l₁ := pre.map I) (by simp; omega), List.getElem?_append_right (l₁ := pre.map I) (by simp; omega), List.length_map]
      by_cases h2 : k < pre.length + zs.length
      · have h3 : k - pre.length < zs.length := by omega
        rw [List.getElem?_append_left (l₁ := zs.map I) (by simpa using h3), List.getElem?_append_left (l₁ := zs.reverse.map I) (by simpa using h3)]
        simp [h2, h3, show pre.length ≤ k by omega]
      · rw [List.getElem?_append_right (l₁ := zs.map I) (by simp; omega), List.getElem?_append_right (l₁ := zs.reverse.map I) (by simp; omega), List.length_map, List.length_map, List.length_reverse]
        cases sp[k - pre.length - zs.length]? with
        | none => rfl
        | some v => simp [h2]
  have hh : (Sort.putRow (Value.int .i64) (Sort.ahead w0 n) g pre.length zs.reverse.toArray).heap[g]? = some (.cells ((pre ++ zs.reverse).map I ++ sp).toArray 3 (0, 0)) := by
    rw [← hcells]
    simp [Sort.putRow, Sort.mapBlock, Sort.ahead, Array.getElem?_modify, hb, Sort.onCells]
  refine ⟨rfl, rfl, rfl, rfl, by simp [Sort.putRow, Sort.mapBlock, Sort.ahead], fun k hk hS => ?_, fun b hb => ?_, fun b hb => ?_, by simp⟩
  · have : g ≠ k := fun e => hS (by simp [e])
    simp [Sort.putRow, Sort.mapBlock, Sort.ahead, Array.getElem?_modify, this]
  · obtain rfl : b = ⟨g, 3, (pre ++ zs.reverse).map I ++ sp⟩ := by simpa using hb
    exact hh
  · obtain rfl : b = ⟨g, 3, (pre ++ zs.reverse).map I ++ sp⟩ := by simpa using hb
    exact .inr (by simp)
theorem set_ints (l : List Int) (sp : List Value) (i : Nat) (x : Int) (hi : i < l.length) : putL (l.map I ++ sp) (0 + i) [I x] = (l.set i x).map I ++ sp := by
  simp [putL, List.set_append_left _ _ (show i < (l.map I).length by simpa using hi), List.map_set]
set_option maxHeartbeats 4000000 in
theorem routeOrders {σ : Type} (R : σ → List Blk → Prop) (vis : σ → List Int → σ) (F : Nat) (caps : List Value) (wB : World) (hfun : funT F = true) (l : List Int)
    (hvis : ∀ s Lv w A o c, Below wB.heap.size wB w → R s Lv → SH w (Lv.map (·.g)) w Lv → IntsAt w A o → (A = none → c = 0) → o.length ≤ c → o.Perm l →
      Calls Try.prog F ([Value.slice A o.length c] ++ caps).toArray w fun e w' => ∃ Lv', e = .returned (.tuple #[]) ∧ R (vis s o) Lv' ∧ SH w (Lv.map (·.g)) w' Lv')
    (A : Option Addr) (cap : Nat) (w0 : World) (hz : IntsAt w0 A l) (hl : l.length ≤ 16) (hnd : l.Nodup) (hrg : ∀ x ∈ l, 0 ≤ x ∧ x < 64)
    (s0 : σ) (Lv0 : List Blk) (hR0 : R s0 Lv0) (H0 : SH w0 (Lv0.map (·.g)) w0 Lv0) (hB : Below wB.heap.size wB w0) (hLv : ∀ g ∈ Lv0.map (·.g), wB.heap.size ≤ g) :
    Calls Try.prog 40 #[.slice A l.length cap, .func (.func F) #[] caps.toArray] w0 fun e w' => ∃ (V : List (List Int)) (Lv' : List Blk), e = .returned (.tuple #[]) ∧ (∀ o, o ∈ V ↔ o.Perm l) ∧ R (V.foldl vis s0) Lv' ∧ SH w0 (Lv0.map (·.g)) w' Lv' := by
  obtain ⟨S, hS⟩ : ∃ S, S = Lv0.map (·.g) := ⟨_, rfl⟩
  rw [← hS] at H0 hLv ⊢
  have hbel : ∀ {w : World} {L : List Blk}, SH w0 S w L → Below wB.heap.size wB w := fun {w L} H =>
    ⟨H.os.trans hB.os, H.tape.trans hB.tape, H.output.trans hB.output, Nat.le_trans hB.size H.size, fun k hk => (H.low k (Nat.lt_of_lt_of_le hk hB.size) (fun hm => by have := hLv k hm; omega)).trans (hB.block k hk)⟩
  have H := H0
  have hsl := srt_len l
  have hsp := srt_perm l
  refine Calls.ofWP Try.func40 rfl Try.results40 Try.ntmps40 rfl ?_
  refine WP.scope ?_
  refine WP.seq ?_
  refine WP.region ?_
  refine OPS.val rfl rfl rfl (Ev.mvS rfl) ?_
  refine OPS.call (d := some 7) rfl rfl rfl (EvC.func (fun_run rfl)) (slValues A l.length cap w0) ?_
  rintro _ w ⟨gv, rfl, Hc⟩
  refine ⟨_, rfl, ?_⟩
  have hz1 := hz.sh Hc
  have hg1 := Hc.own ⟨gv, 29, [.slice A l.length cap]⟩ (by simp)
  replace H := SH.call (L1 := Lv0) (Lv := []) (by simpa using H) (by simpa using Hc.drop (List.nil_sublist _))
  clear Hc
  refine OPS.call (d := some 8) rfl rfl rfl (EvC.func (fun_run rfl)) (slSorted gv A l cap w hz1 (by omega) (by simpa using hg1)) ?_
  rintro _ w ⟨A', c, Lo, rfl, hO, Hc⟩
  refine ⟨_, rfl, ?_⟩
  replace H := SH.call (L1 := Lv0) (Lv := []) (by simpa using H) Hc
  clear Hc hz1 hg1
  have hA : A' = none → c = 0 := fun h => by
    rcases hO.form with ⟨_, _, h2, _⟩ | ⟨g, sp, h2, _⟩
    · exact h2
    · rw [h] at h2; cases h2
  rw [← hsl] at hO
  have hmet := Met.start hsp (by
    have h1 := srt_sorted l
    have h2 := List.nodup_iff_pairwise_ne.1 (hsp.nodup_iff.2 hnd)
    exact (h1.and h2).imp fun h => by omega)
  rw [← hsl]
  refine OPS.val rfl rfl rfl (Ev.asS rfl) ?_
  refine OPS.nil ?_
  refine WP.seq ?_
  refine WP.label ?_
  refine WP.block ?_
  refine WP.loop [4, 5, 9, 10, 11, 12, 13, 14, 15, 16, 17, 18, 19, 20, 21, 22, 23, 24, 25, 26, 27, 28, 29, 30, 31, 32, 33, 34, 35, 36, 37, 38, 39, 40, 41, 42, 43, 44, 45, 46, 47, 48, 49, 50, 51, 52, 53, 54] (fun k e w' => ∃ (cur : List Int) (V : List (List Int)) (Lv Lo : List Blk), k = 64 ^ cur.length - encL cur ∧ cur.length = (srt l).length ∧ Met l cur V ∧ OwnS A' c cur.length (cur.map I) 3 1 Lo ∧ R (V.foldl vis s0) Lv ∧ SH w0 S w' (Lv ++ Lo)) ((64 ^ (srt l).length - encL (srt l))) (⟨srt l, [], Lv0, Lo, rfl, rfl, hmet, hO, hR0, H⟩) ?_
  clear H hO hmet
  rintro k u w ⟨cur, V, Lv, Lo, hk, hcl, hmet, hO, hR, H⟩
  rw [← hcl]
  have hpc := hmet.perm
  have hndc : cur.Nodup := hpc.nodup_iff.2 hnd
  have hrgc : ∀ x ∈ cur, 0 ≤ x ∧ x < 64 := fun x hx => hrg x (hpc.mem_iff.1 hx)
  have hcl16 : cur.length ≤ 16 := by rw [hcl, hsl]; exact hl
  have hlec : cur.length ≤ c := by
    rcases hO.form with ⟨_, h, _⟩ | ⟨_, _, _, _, h, _⟩
    · omega
    · exact h
  refine WP.block ?_
  refine WP.seq ?_
  refine WP.region ?_
  refine OPS.val rfl rfl rfl (Ev.mvF rfl) ?_
  refine OPS.val rfl rfl rfl (Ev.mvS rfl) ?_
  refine OPS.call (d := some 11) rfl rfl rfl (EvC.clos rfl (fun_run (by assumption))) (hvis (V.foldl vis s0) Lv w A' cur c (hbel H) hR (H.restart (List.sublist_append_left _ _)) (hO.ones H).1 hA hlec hpc) ?_
  rintro _ w ⟨Lv', rfl, hR', Hc⟩
  refine ⟨_, rfl, ?_⟩
  replace H := (SH.call (L1 := Lo) (Lv := Lv) (H.perm List.perm_append_comm) Hc).perm List.perm_append_comm
  clear Hc hR
  have hR2 : R ((V ++ [cur]).foldl vis s0) Lv' := by rw [List.foldl_append]; exact hR'
  refine OPS.nil ?_
  refine WP.seq ?_
  refine WP.seq ?_
  refine WP.region ?_
  refine OPS.val rfl rfl rfl (Ev.mvS rfl) ?_
  refine OPS.val rfl rfl rfl (Ev.len (el_run rfl) rfl) ?_
  refine OPS.val rfl rfl rfl (Ev.sub rfl rfl (by unfold fits; omega)) ?_
  refine OPS.val rfl rfl rfl (Ev.asI rfl) ?_
  refine OPS.nil ?_
  refine WP.block ?_
  refine WP.loop [4, 5, 15, 16, 17, 18, 19, 20, 21, 22, 23, 24, 25, 26, 27, 28, 29, 30, 31, 32, 33, 34, 35, 36, 37, 38, 39, 40, 41, 42, 43, 44, 45, 46, 47, 48, 49, 50, 51, 52, 53, 54] (fun k e w' => ∃ (i : Int), e 4 = I i ∧ k = (i + 2).toNat ∧ -2 ≤ i ∧ i ≤ (cur.length : Int) - 2 ∧ Fall cur (i + 1).toNat ∧ SH w0 S w' (Lv' ++ Lo)) (cur.length) (⟨(cur.length : Int) - 2, rfl, by omega, by omega, by omega, fun a b h1 h2 h3 => by omega, H⟩) ?_
  clear H
  rintro k3 u3 w ⟨i, h4, hk3, hi2, hil, hfall, H⟩
  refine WP.know (t := 4) h4 ?_
  refine WP.seq ?_
  refine WP.seq ?_
  refine WP.region ?_
  refine OPS.val rfl rfl rfl (Ev.mvI rfl) ?_
  refine OPS.val rfl rfl rfl (Ev.geq rfl rfl) ?_
  refine OPS.nil ?_
  refine WP.cond rfl (fun hc3 => ?_) (fun hc3 => ?_)
  · have hi0 : 0 ≤ i := by simpa using hc3
    obtain ⟨i, rfl⟩ := Int.eq_ofNat_of_zero_le hi0
    have hfall' : Fall cur (i + 1) := by simpa using hfall
    refine WP.skip ?_
    refine WP.seq ?_
    refine WP.block ?_
    refine WP.seq ?_
    refine WP.region ?_
    refine OPS.val rfl rfl rfl (Ev.mvS rfl) ?_
    refine OPS.val rfl rfl rfl (Ev.len (el_run rfl) rfl) ?_
    refine OPS.val rfl rfl rfl (Ev.sub rfl rfl (by unfold fits; omega)) ?_
    refine OPS.val rfl rfl rfl (Ev.asI rfl) ?_
    refine OPS.nil ?_
    refine WP.block ?_
    refine WP.loop [5, 22, 23, 24, 25, 26, 27, 28, 29, 30, 31, 32, 33, 34, 35, 36, 37, 38, 39, 40, 41, 42, 43, 44, 45, 46, 47, 48, 49, 50, 51, 52, 53, 54] (fun k e w' => ∃ (j : Nat), e 5 = I j ∧ k = j ∧ i ≤ j ∧ j < cur.length ∧ (∀ q, j < q → q < cur.length → ¬ cur.getD i 0 < cur.getD q 0) ∧ SH w0 S w' (Lv' ++ Lo)) ((cur.length - 1)) (⟨cur.length - 1, by show I ((cur.length : Int) - 1) = _; congr 1; omega, rfl, by omega, by omega, fun q h1 h2 => by omega, H⟩) ?_
    clear H
    rintro k6 u6 w ⟨j, h5, hk6, hij, hjl, hno, H⟩
    refine WP.know (t := 5) h5 ?_
    refine WP.seq ?_
    refine WP.seq ?_
    refine WP.region ?_
    refine OPS.val rfl rfl rfl (Ev.mvI rfl) ?_
    refine OPS.val rfl rfl rfl (Ev.mvI rfl) ?_
    refine OPS.val rfl rfl rfl (Ev.gtr rfl rfl) ?_
    refine OPS.nil ?_
    refine WP.cond rfl (fun hc6 => ?_) (fun hc6 => ?_)
    · have hlt : i < j := by simpa using hc6
      obtain ⟨g, sp, hAe, hLo, o1, o2, o3⟩ : ∃ g sp, A' = some ⟨g, 0, none⟩ ∧ Lo = [⟨g, 3, cur.map I ++ sp⟩] ∧ cur.length ≤ c ∧ c ≤ maxLen ∧ (cur.map I ++ sp).length = c * 1 := by
        rcases hO.form with ⟨_, h, _⟩ | h
        · omega
        · exact h
      have hgi := getDi (show i < cur.length by omega)
      have hgj := getDi (show j < cur.length by omega)
      have hcell : ∀ (w : World), SH w0 S w (Lv' ++ Lo) → ∀ q (h : q < cur.length), w.cell? ⟨g, 0 + q, none⟩ = some (I (cur.getD q 0)) := fun w H q h => by
        obtain ⟨b, o, e, hc⟩ := (hO.ones H).1 q h
        rw [hAe] at e; cases e
        rw [getDi h]; exact hc
      subst hAe
      refine WP.skip ?_
      refine WP.seq ?_
      refine WP.block ?_
      refine WP.seq ?_
      refine WP.rstill mixed (by kernel_rfl) H ?_
      clear H; intro w hbw8 H
      have hx := hcell w H i (by omega)
      have hy := hcell w H j (by omega)
      refine OPS.val rfl rfl rfl (Ev.mvS rfl) ?_
      refine OPS.val rfl rfl rfl (Ev.mvI rfl) ?_
      refine OPS.val rfl rfl rfl ((by exact Ev.indexAddr1 (el_run rfl) (size_run rfl) rfl rfl rfl (by omega))) ?_
      refine OPS.val rfl rfl rfl (Ev.load1 (agg_run rfl) rfl (by assumption)) ?_
      refine OPS.val rfl rfl rfl (Ev.mvS rfl) ?_
      refine OPS.val rfl rfl rfl (Ev.mvI rfl) ?_
      refine OPS.val rfl rfl rfl ((by exact Ev.indexAddr1 (el_run rfl) (size_run rfl) rfl rfl rfl (by omega))) ?_
      refine OPS.val rfl rfl rfl (Ev.load1 (agg_run rfl) rfl (by assumption)) ?_
      refine OPS.val rfl rfl rfl (Ev.lss rfl rfl) ?_
      refine OPS.nil_s ?_
      refine WP.cond rfl (fun hc8 => ?_) (fun hc8 => ?_)
      · have hlx : cur.getD i 0 < cur.getD j 0 := by simpa using hc8
        subst hLo
        have hcl2 : ∀ (w : World), SH w0 S w (⟨g, 3, cur.map I ++ sp⟩ :: Lv') → ∀ q (h : q < cur.length), w.cell? ⟨g, 0 + q, none⟩ = some (I (cur.getD q 0)) := fun w H q h => by
          obtain ⟨b, o, e, hc⟩ := OnesAt.own (enc := I) (l := cur) (post := sp) H 0 rfl rfl q h
          cases e
          rw [getDi h]; exact hc
        have Hf := H.perm (List.perm_append_singleton _ _)
        replace H := H.drop (List.nil_sublist _)
        have hl1 : ((swp cur i j).take (i + 1)).length = 0 + (i + 1) * 1 := by rw [List.length_take, swp_len]; omega
        have hl2 : ((swp cur i j).drop (i + 1)).length = cur.length - (i + 1) := by rw [List.length_drop, swp_len]
        have hrev := fun w hb => revOwn g ((swp cur i j).take (i + 1)) ((swp cur i j).drop (i + 1)) sp (c - (i + 1)) w hb (by rw [hl2]; omega)
        simp only [hl1, hl2, List.take_append_drop] at hrev
        refine WP.seq ?_
        refine WP.rheldC [36, 37, 38, 39, 40, 41, 42, 43, 44, 45, 46, 47, 48, 49] (fun _ w' => SH w0 S w' (⟨g, 3, (swp cur i j).map I ++ sp⟩ :: Lv')) mixed H ?_ ?_
        · clear H; intro w hbw9 H
          refine OPH.take 0 rfl rfl rfl rfl (by kernel_rfl) (by kernel_rfl) (by kernel_rfl) rfl (by exact H) (fun w H => Ev.mvS rfl) ?_
          refine OPH.take 1 rfl rfl rfl rfl (by kernel_rfl) (by kernel_rfl) (by kernel_rfl) rfl (by exact H) (fun w H => Ev.mvI rfl) ?_
          refine OPH.take 2 rfl rfl rfl rfl (by kernel_rfl) (by kernel_rfl) (by kernel_rfl) rfl (by exact H) (fun w H => Ev.mvS rfl) ?_
          refine OPH.take 3 rfl rfl rfl rfl (by kernel_rfl) (by kernel_rfl) (by kernel_rfl) rfl (by exact H) (fun w H => Ev.mvI rfl) ?_
          refine OPH.take 4 rfl rfl rfl rfl (by kernel_rfl) (by kernel_rfl) (by kernel_rfl) rfl (by exact H) (fun w H => Ev.mvS rfl) ?_
          refine OPH.take 5 rfl rfl rfl rfl (by kernel_rfl) (by kernel_rfl) (by kernel_rfl) rfl (by exact H) (fun w H => Ev.mvI rfl) ?_
          refine OPH.take 6 rfl rfl rfl rfl (by kernel_rfl) (by kernel_rfl) (by kernel_rfl) rfl (by exact H) (fun w H => (by exact Ev.indexAddr1 (el_run rfl) (size_run rfl) rfl rfl rfl (by omega))) ?_
          refine OPH.take 8 rfl rfl rfl rfl (by kernel_rfl) (by kernel_rfl) (by kernel_rfl) rfl (by exact H) (fun w H => Ev.mvS rfl) ?_
          refine OPH.take 9 rfl rfl rfl rfl (by kernel_rfl) (by kernel_rfl) (by kernel_rfl) rfl (by exact H) (fun w H => Ev.mvI rfl) ?_
          refine OPH.take 10 rfl rfl rfl rfl (by kernel_rfl) (by kernel_rfl) (by kernel_rfl) rfl (by exact H) (fun w H => (by exact Ev.indexAddr1 (el_run rfl) (size_run rfl) rfl rfl rfl (by omega))) ?_
          refine OPH.all [7, 11] (by kernel_rfl) (by simp) rfl ?_
          intro i hi; simp only [List.mem_cons, List.not_mem_nil, or_false] at hi
          rcases hi with rfl | rfl
          · refine ⟨_, rfl, ?_⟩
            try replace Hf := Hf.toBelow hbw9
            have hy := hcl2 w Hf j (by omega)
            refine OPS.val rfl rfl rfl (Ev.load1 (agg_run rfl) rfl hy) ?_
            refine OPS.nil ?_
            refine ⟨(by exact H), ?_⟩
            refine OPH.all [11] (by kernel_rfl) (by simp) rfl ?_
            intro i hi; simp only [List.mem_cons, List.not_mem_nil, or_false] at hi
            rcases hi with rfl
            · refine ⟨_, rfl, ?_⟩
              try replace Hf := Hf.toBelow hbw9
              have hx := hcl2 w Hf i (by omega)
              refine OPS.val rfl rfl rfl (Ev.load1 (agg_run rfl) rfl hx) ?_
              refine OPS.nil ?_
              refine ⟨(by exact H), ?_⟩
              refine OPH.take 12 rfl rfl rfl rfl (by kernel_rfl) (by kernel_rfl) (by kernel_rfl) rfl (by exact H) (fun w H => (by exact Ev.indexAddr1 (el_run rfl) (size_run rfl) rfl rfl rfl (by omega))) ?_
              refine OPH.all [13] (by kernel_rfl) (by simp) rfl ?_
              intro i hi; simp only [List.mem_cons, List.not_mem_nil, or_false] at hi
              rcases hi with rfl
              · refine ⟨_, rfl, ?_⟩
                refine OPS.store 0 _ rfl rfl rfl (size_run rfl) rfl (cI rfl) rfl rfl Hf rfl (by simp; omega) ?_
                clear H Hf; intro w Hf
                replace Hf : SH w0 S w (⟨g, 3, putL (cur.map I ++ sp) (0 + i) [I (cur.getD j 0)]⟩ :: Lv') := Hf
                rw [set_ints _ _ _ _ (by omega)] at Hf
                have H := Hf.drop (List.nil_sublist _)
                refine OPS.nil ?_
                refine ⟨(by exact H), ?_⟩
                refine OPH.take 14 rfl rfl rfl rfl (by kernel_rfl) (by kernel_rfl) (by kernel_rfl) rfl (by exact H) (fun w H => (by exact Ev.indexAddr1 (el_run rfl) (size_run rfl) rfl rfl rfl (by omega))) ?_
                refine OPH.all [15] (by kernel_rfl) (by simp) rfl ?_
                intro i hi; simp only [List.mem_cons, List.not_mem_nil, or_false] at hi
                rcases hi with rfl
                · refine ⟨_, rfl, ?_⟩
                  refine OPS.store 0 _ rfl rfl rfl (size_run rfl) rfl (cI rfl) rfl rfl Hf rfl (by simp; omega) ?_
                  clear H Hf; intro w Hf
                  replace Hf : SH w0 S w (⟨g, 3, putL ((cur.set i (cur.getD j 0)).map I ++ sp) (0 + j) [I (cur.getD i 0)]⟩ :: Lv') := Hf
                  rw [set_ints _ _ _ _ (by rw [List.length_set]; omega)] at Hf
                  have H := Hf.drop (List.nil_sublist _)
                  refine OPS.nil ?_
                  refine ⟨(by exact H), ?_⟩
                  refine OPH.done (by kernel_rfl) ?_
                  exact ⟨(by repeat (first | exact Agree.refl _ _ | exact Agree.mix _ _ _ | refine Agree.upd rfl ?_ | refine Agree.mix2 rfl ?_)), Hf⟩
          · refine ⟨_, rfl, ?_⟩
            try replace Hf := Hf.toBelow hbw9
            have hx := hcl2 w Hf i (by omega)
            refine OPS.val rfl rfl rfl (Ev.load1 (agg_run rfl) rfl hx) ?_
            refine OPS.nil ?_
            refine ⟨(by exact H), ?_⟩
            refine OPH.all [7] (by kernel_rfl) (by simp) rfl ?_
            intro i hi; simp only [List.mem_cons, List.not_mem_nil, or_false] at hi
            rcases hi with rfl
            · refine ⟨_, rfl, ?_⟩
              try replace Hf := Hf.toBelow hbw9
              have hy := hcl2 w Hf j (by omega)
              refine OPS.val rfl rfl rfl (Ev.load1 (agg_run rfl) rfl hy) ?_
              refine OPS.nil ?_
              refine ⟨(by exact H), ?_⟩
              refine OPH.take 12 rfl rfl rfl rfl (by kernel_rfl) (by kernel_rfl) (by kernel_rfl) rfl (by exact H) (fun w H => (by exact Ev.indexAddr1 (el_run rfl) (size_run rfl) rfl rfl rfl (by omega))) ?_
              refine OPH.all [13] (by kernel_rfl) (by simp) rfl ?_
              intro i hi; simp only [List.mem_cons, List.not_mem_nil, or_false] at hi
              rcases hi with rfl
              · refine ⟨_, rfl, ?_⟩
                refine OPS.store 0 _ rfl rfl rfl (size_run rfl) rfl (cI rfl) rfl rfl Hf rfl (by simp; omega) ?_
                clear H Hf; intro w Hf
                replace Hf : SH w0 S w (⟨g, 3, putL (cur.map I ++ sp) (0 + i) [I (cur.getD j 0)]⟩ :: Lv') := Hf
                rw [set_ints _ _ _ _ (by omega)] at Hf
                have H := Hf.drop (List.nil_sublist _)
                refine OPS.nil ?_
                refine ⟨(by exact H), ?_⟩
                refine OPH.take 14 rfl rfl rfl rfl (by kernel_rfl) (by kernel_rfl) (by kernel_rfl) rfl (by exact H) (fun w H => (by exact Ev.indexAddr1 (el_run rfl) (size_run rfl) rfl rfl rfl (by omega))) ?_
                refine OPH.all [15] (by kernel_rfl) (by simp) rfl ?_
                intro i hi; simp only [List.mem_cons, List.not_mem_nil, or_false] at hi
                rcases hi with rfl
                · refine ⟨_, rfl, ?_⟩
                  refine OPS.store 0 _ rfl rfl rfl (size_run rfl) rfl (cI rfl) rfl rfl Hf rfl (by simp; omega) ?_
                  clear H Hf; intro w Hf
                  replace Hf : SH w0 S w (⟨g, 3, putL ((cur.set i (cur.getD j 0)).map I ++ sp) (0 + j) [I (cur.getD i 0)]⟩ :: Lv') := Hf
                  rw [set_ints _ _ _ _ (by rw [List.length_set]; omega)] at Hf
                  have H := Hf.drop (List.nil_sublist _)
                  refine OPS.nil ?_
                  refine ⟨(by exact H), ?_⟩
                  refine OPH.done (by kernel_rfl) ?_
                  exact ⟨(by repeat (first | exact Agree.refl _ _ | exact Agree.mix _ _ _ | refine Agree.upd rfl ?_ | refine Agree.mix2 rfl ?_)), Hf⟩
        clear H
        rintro u w H
        refine WP.seq ?_
        refine WP.region ?_
        refine OPS.val rfl rfl rfl (Ev.mvS rfl) ?_
        refine OPS.val rfl rfl rfl (Ev.mvI rfl) ?_
        refine OPS.val rfl rfl rfl (Ev.add rfl rfl (by unfold fits; omega)) ?_
        refine OPS.val rfl rfl rfl (Ev.sliceFrom2 (j := i + 1) (el_run rfl) (size_run rfl) rfl rfl rfl (by omega) (by omega)) ?_
        refine OPS.call (d := some 54) rfl rfl rfl (EvC.func (fun_run rfl)) (hrev w (H.own _ List.mem_cons_self)) ?_
        rintro _ w ⟨rfl, Hc⟩
        refine ⟨_, rfl, ?_⟩
        replace H := SH.call (L1 := Lv') (Lv := [⟨g, 3, (swp cur i j).map I ++ sp⟩]) (H.perm (List.perm_append_singleton _ _).symm) Hc
        clear Hc
        have hstl := stepL_len cur i j
        obtain ⟨hst1, hst2, _⟩ := step_ok hlt hjl hfall' hlx hno hndc
        have hen := encL_lex hstl.symm hrgc (fun x hx => hrgc x (hst2.mem_iff.1 hx)) hst1
        have hen2 := encL_lt (l := stepL cur i j) (fun x hx => hrgc x (hst2.mem_iff.1 hx))
        rw [hstl] at hen2
        refine OPS.nil ?_
        refine WP.exit ?_
        refine XB.miss rfl ?_
        refine XB.miss rfl ?_
        refine XB.miss rfl ?_
        refine XB.miss rfl ?_
        refine XB.hit ?_
        exact ⟨(by repeat (first | exact Agree.refl _ _ | exact Agree.mix _ _ _ | refine Agree.upd rfl ?_ | refine Agree.mix2 rfl ?_)), 64 ^ (stepL cur i j).length - encL (stepL cur i j), by rw [hstl]; omega, stepL cur i j, V ++ [cur], Lv', _, rfl, by rw [hstl], hmet.step hlt hjl hfall' hlx hno hndc, ⟨by rw [List.length_map, hstl]; omega, .inr ⟨g, sp, rfl, rfl, by rw [hstl]; exact o1, o2, by rw [List.length_append, List.length_map, hstl]; simpa using o3⟩⟩, hR2, H⟩
      have hlx : ¬ cur.getD i 0 < cur.getD j 0 := by simpa using hc8
      refine WP.skip ?_
      refine WP.region ?_
      refine OPS.val rfl rfl rfl (Ev.mvI rfl) ?_
      refine OPS.val rfl rfl rfl (Ev.sub rfl rfl (by unfold fits; omega)) ?_
      refine OPS.val rfl rfl rfl (Ev.asI rfl) ?_
      refine OPS.nil ?_
      exact ⟨(by repeat (first | exact Agree.refl _ _ | exact Agree.mix _ _ _ | refine Agree.upd rfl ?_ | refine Agree.mix2 rfl ?_)), k6 - 1, by omega, j - 1, by show I ((j : Int) - 1) = _; congr 1; omega, by omega, by omega, by omega, (fun q h1 h2 => by
        by_cases h : q = j
        · subst h; exact hlx
        · exact hno q (by omega) h2), H⟩
    have hij' : j = i := by simp at hc6; omega
    subst hij'
    refine WP.exit ?_
    refine XB.hit ?_
    refine WP.region ?_
    refine OPS.val rfl rfl rfl (Ev.mvI rfl) ?_
    refine OPS.val rfl rfl rfl (Ev.sub rfl rfl (by unfold fits; omega)) ?_
    refine OPS.val rfl rfl rfl (Ev.asI rfl) ?_
    refine OPS.nil ?_
    exact ⟨(by repeat (first | exact Agree.refl _ _ | exact Agree.mix _ _ _ | refine Agree.upd rfl ?_ | refine Agree.mix2 rfl ?_)), k3 - 1, by omega, (j : Int) - 1, rfl, by omega, by omega, by omega, by simpa using fall_more hfall' hno hndc, H⟩
  refine WP.exit ?_
  refine XB.hit ?_
  refine WP.ret ⟨_, rfl, ?_⟩
  have hi1 : i < 0 := by simpa using hc3
  exact ⟨V ++ [cur], Lv', rfl, hmet.done (by rw [show (i + 1).toNat = 0 by omega] at hfall; exact hfall), hR2, H.drop (List.sublist_append_left _ _)⟩
end Go.Proofs.Ytfddebpeiilohaa
