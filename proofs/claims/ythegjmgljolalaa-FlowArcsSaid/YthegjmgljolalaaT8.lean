/-
  Walks: greatest, Most.
-/
import Derived.Test.YthegjmgljolalaaM1
set_option linter.all false
namespace Go.Proofs.Ythegjmgljolalaa
open Go Go.W Go.RowKit

/-- a network as Check lets it pass -/
structure NetOk (n : Nat) (l : List Arc) : Prop where
  n1 : 1 ≤ n
  n2 : n ≤ 64
  len : l.length ≤ 512
  nodes : NodesOk n l
  caps : ∀ a ∈ l, (0 ≤ a.cap ∧ a.cap ≤ 65536) ∧ (0 ≤ a.cost ∧ a.cost ≤ 65536)
theorem amt_le {n : Nat} {l : List Arc} {s t : Int} {on : List Int} {amt : Int} (hN : NetOk n l) (hs : 0 ≤ s ∧ s < n) (hst : s ≠ t) (hf : IsFlow n l s t on amt) : amt ≤ 65536 * l.length := by
  have h := weak_dual hf hN.nodes hs (S := fun u => decide (u = s)) (by simp) (by simp; omega)
  have := cutCap_le (fun u => decide (u = s)) l fun a ha => (hN.caps a ha).1
  omega

set_option maxHeartbeats 1000000 in
theorem flowGreatest (n s t : Nat) (A : Option Addr) (l : List Arc) (cap : Nat) (w0 : World) (hN : NetOk n l) (hs : s < n) (ht : t < n) (hst : s ≠ t) (hz : ArcsAt w0 A l) :
    Calls Try.prog 30 #[.agg #[I n, .slice A l.length cap], I s, I t] w0
      fun e w' => ∃ (gon : Nat) (on : List Int) (amt : Int), e = .returned (.tuple #[.agg #[I n, .slice A l.length cap, .slice (some ⟨gon, 0, none⟩) l.length l.length], I amt]) ∧ on.length = l.length ∧ IsFlow n l s t on amt ∧ IsMax n l s t amt ∧ SH w0 [] w' [⟨gon, 3, on.map I⟩] := by
  have H := SH.refl w0
  have hlen := hN.len
  have hn2 := hN.n2
  refine Calls.ofWPc Try.func30 rfl Try.results30 Try.ntmps30 rfl ?_
  refine WP.seq ?_
  refine WP.region ?_
  refine OPS.box rfl rfl rfl rfl (cA rfl) H ?_
  clear H; intro g3 w H
  refine OPS.alloc rfl rfl rfl rfl (zero_run rfl) rfl H ?_
  clear H; intro g6 w H
  refine OPS.val rfl rfl rfl (Ev.asI rfl) ?_
  refine OPS.nil ?_
  refine WP.seq ?_
  refine WP.rheldC [8, 11, 12, 13, 14, 15, 16] (fun u w' => ∃ g8 g15 : Nat, u 8 = .pointer (some ⟨g8, 0, none⟩) ∧ SH w0 [] w' [⟨g8, 52, [I n, .slice A l.length cap, .slice (some ⟨g15, 0, none⟩) l.length l.length]⟩, ⟨g6, 52, [I 0, .slice none 0 0, .slice none 0 0]⟩, ⟨g15, 3, (List.replicate l.length 0).map I⟩]) mixed H ?_ ?_
  · clear H; intro w hbw1 H
    refine OPH.take 0 rfl rfl rfl rfl (by kernel_rfl) (by kernel_rfl) (by kernel_rfl) rfl (by exact H) (fun w H => (by exact Ev.loadO 1 H rfl (agg_run rfl) (size_run rfl) (by rfl) rfl)) ?_
    refine OPH.take 1 rfl rfl rfl rfl (by kernel_rfl) (by kernel_rfl) (by kernel_rfl) rfl (by exact H) (fun w H => Ev.fieldAddr (fld_run rfl) rfl) ?_
    refine OPH.take 2 rfl rfl rfl rfl (by kernel_rfl) (by kernel_rfl) (by kernel_rfl) rfl (by exact H) (fun w H => Ev.load1 (agg_run rfl) rfl (by exact H.ldL 1 rfl _ rfl)) ?_
    refine OPH.take 3 rfl rfl rfl rfl (by kernel_rfl) (by kernel_rfl) (by kernel_rfl) rfl (by exact H) (fun w H => Ev.len (el_run rfl) rfl) ?_
    refine OPH.all [4, 6] (by kernel_rfl) (by simp) rfl ?_
    intro i hi; simp only [List.mem_cons, List.not_mem_nil, or_false] at hi
    rcases hi with rfl | rfl
    · refine ⟨_, rfl, ?_⟩
      refine OPS.makeSlice rfl rfl rfl rfl (sl_run rfl) rfl rfl rfl (by omega) (by omega) H ?_
      clear H; intro g15 w H
      refine OPS.nil ?_
      refine ⟨(by exact H.drop (List.sublist_cons_self _ _)), ?_⟩
      refine OPH.take 5 rfl rfl rfl rfl (by kernel_rfl) (by kernel_rfl) (by kernel_rfl) rfl (by exact H.drop (List.sublist_cons_self _ _)) (fun w H => Ev.build (bld_52_0_1 rfl rfl)) ?_
      refine OPH.all [6] (by kernel_rfl) (by simp) rfl ?_
      intro i hi; simp only [List.mem_cons, List.not_mem_nil, or_false] at hi
      rcases hi with rfl
      · refine ⟨_, rfl, ?_⟩
        refine OPS.alloc rfl rfl rfl rfl (zero_run rfl) rfl H ?_
        clear H; intro g8 w H
        refine OPS.nil ?_
        refine ⟨(by exact H.drop ((List.sublist_cons_self _ _).trans (List.sublist_cons_self _ _))), ?_⟩
        refine OPH.all [7] (by kernel_rfl) (by simp) rfl ?_
        intro i hi; simp only [List.mem_cons, List.not_mem_nil, or_false] at hi
        rcases hi with rfl
        · refine ⟨_, rfl, ?_⟩
          refine OPS.store 0 _ rfl rfl rfl (size_run rfl) rfl (cA rfl) rfl rfl H rfl (by simp) ?_
          clear H; intro w H; try simp only [List.set_cons_zero, List.set_cons_succ, putL, Nat.zero_add] at H
          refine OPS.nil ?_
          refine ⟨(by exact H.drop ((List.sublist_cons_self _ _).trans (List.sublist_cons_self _ _))), ?_⟩
          refine OPH.done (by kernel_rfl) ?_
          refine ⟨(by repeat (first | exact Agree.refl _ _ | exact Agree.mix _ _ _ | refine Agree.upd rfl ?_ | refine Agree.mix2 rfl ?_)), g8, g15, rfl, ?_⟩; rw [← mkL_ones]; exact H.reidx [0, 2, 1] (by decide) rfl
    · refine ⟨_, rfl, ?_⟩
      refine OPS.alloc rfl rfl rfl rfl (zero_run rfl) rfl H ?_
      clear H; intro g8 w H
      refine OPS.nil ?_
      refine ⟨(by exact H.drop (List.sublist_cons_self _ _)), ?_⟩
      refine OPH.all [4] (by kernel_rfl) (by simp) rfl ?_
      intro i hi; simp only [List.mem_cons, List.not_mem_nil, or_false] at hi
      rcases hi with rfl
      · refine ⟨_, rfl, ?_⟩
        refine OPS.makeSlice rfl rfl rfl rfl (sl_run rfl) rfl rfl rfl (by omega) (by omega) H ?_
        clear H; intro g15 w H
        refine OPS.nil ?_
        refine ⟨(by exact H.drop ((List.sublist_cons_self _ _).trans (List.sublist_cons_self _ _))), ?_⟩
        refine OPH.take 5 rfl rfl rfl rfl (by kernel_rfl) (by kernel_rfl) (by kernel_rfl) rfl (by exact H.drop ((List.sublist_cons_self _ _).trans (List.sublist_cons_self _ _))) (fun w H => Ev.build (bld_52_0_1 rfl rfl)) ?_
        refine OPH.all [7] (by kernel_rfl) (by simp) rfl ?_
        intro i hi; simp only [List.mem_cons, List.not_mem_nil, or_false] at hi
        rcases hi with rfl
        · refine ⟨_, rfl, ?_⟩
          refine OPS.store 1 _ rfl rfl rfl (size_run rfl) rfl (cA rfl) rfl rfl H rfl (by simp) ?_
          clear H; intro w H; try simp only [List.set_cons_zero, List.set_cons_succ, putL, Nat.zero_add] at H
          refine OPS.nil ?_
          refine ⟨(by exact H.drop ((List.sublist_cons_self _ _).trans (List.sublist_cons_self _ _))), ?_⟩
          refine OPH.done (by kernel_rfl) ?_
          refine ⟨(by repeat (first | exact Agree.refl _ _ | exact Agree.mix _ _ _ | refine Agree.upd rfl ?_ | refine Agree.mix2 rfl ?_)), g8, g15, rfl, ?_⟩; rw [← mkL_ones]; exact H.reidx [1, 2, 0] (by decide) rfl
  clear H
  rintro u w ⟨g8, g15, h8, H⟩
  refine WP.know (t := 8) h8 ?_
  refine WP.seq ?_
  refine WP.region ?_
  refine OPS.val rfl rfl rfl (Ev.asI rfl) ?_
  refine OPS.nil ?_
  refine WP.block ?_
  refine WP.loop [7, 9, 10, 17, 18, 19, 20, 21, 22, 23, 24, 25, 26, 27, 28, 29, 30, 31, 32, 33, 34] (fun k e w' => ∃ (on : List Int) (amt : Int), on.length = l.length ∧ e 9 = I amt ∧ 0 ≤ amt ∧ IsFlow n l s t on amt ∧ amt + k = 65536 * l.length ∧ SH w0 [] w' [⟨g8, 52, [I n, .slice A l.length cap, .slice (some ⟨g15, 0, none⟩) l.length l.length]⟩, ⟨g6, 52, [I 0, .slice none 0 0, .slice none 0 0]⟩, ⟨g15, 3, on.map I⟩]) (65536 * l.length) (⟨List.replicate l.length 0, 0, by simp, rfl, by omega, zero_isFlow fun a ha => (hN.caps a ha).1.1, by simp, H⟩) ?_
  clear H
  rintro k u2 w ⟨on, amt, hol, h9, ham, hfl, hk, H⟩
  refine WP.know (t := 9) h9 ?_
  have hamt := amt_le hN ⟨by omega, by omega⟩ (by omega) hfl
  have hob : ∀ i (h : i < on.length), 0 ≤ on[i] ∧ on[i] ≤ 65536 := fun i h => by
    have h1 := hfl.v.bd i (by omega) h
    have h2 := (hN.caps l[i] (List.getElem_mem (by omega))).1
    omega
  have hsp := reachFin_spec (s := s) (on := on) hN.nodes hol hs
  refine WP.block ?_
  refine WP.seq ?_
  refine WP.region ?_
  refine OPS.val rfl rfl rfl ((by exact Ev.loadO 0 H rfl (agg_run rfl) (size_run rfl) (by rfl) rfl)) ?_
  refine OPS.val rfl rfl rfl (Ev.mvI rfl) ?_
  have hfr := flowReach n s A (some ⟨g15, 0, none⟩) l on cap l.length w hs hn2 (hz.sh H) (onesOwn H 2 rfl) hol (by omega) (fun i h => by have := hN.caps l[i] (List.getElem_mem h); omega) (fun i h => by have := hob i h; omega) (fun i h => hN.nodes l[i] (List.getElem_mem h))
  rw [hol] at hfr
  refine OPS.call (d := some 19) rfl rfl rfl (EvC.func (fun_run rfl)) (hfr) ?_
  rintro _ w ⟨ga, rfl, Hc⟩
  refine ⟨_, rfl, ?_⟩
  replace H := SH.call (L1 := [⟨g8, 52, [I n, .slice A l.length cap, .slice (some ⟨g15, 0, none⟩) l.length l.length]⟩, ⟨g6, 52, [I 0, .slice none 0 0, .slice none 0 0]⟩, ⟨g15, 3, on.map I⟩]) (Lv := []) (by simpa using H) Hc
  clear Hc hfr
  generalize hst2 : reachFin l on n s = sts at H hsp
  replace H := H.reidx (L' := [⟨g8, 52, [I n, .slice A l.length cap, .slice (some ⟨g15, 0, none⟩) l.length l.length]⟩, ⟨g6, 52, [I 0, .slice none 0 0, .slice none 0 0]⟩, ⟨ga, 60, sts.flatMap stepCells⟩, ⟨g15, 3, on.map I⟩]) [0, 1, 3, 2] (by decide) rfl
  have hrow := rowsOwn' stepCells_len H 2 rfl
  have hsl := hsp.len
  refine OPS.val rfl rfl rfl (Ev.asS rfl) ?_
  refine OPS.nil ?_
  refine WP.seq ?_
  refine WP.seq ?_
  obtain ⟨_, _, e1, b0, b1, b2, b3, b4, b5, _⟩ := hrow t (by omega)
  cases e1
  have hkt : kn sts t = sts[t].known := by unfold kn; simp [hsl, ht]
  refine WP.region ?_
  refine OPS.val rfl rfl rfl (Ev.mvS rfl) ?_
  refine OPS.val rfl rfl rfl (Ev.mvI rfl) ?_
  refine OPS.val rfl rfl rfl ((by exact Ev.indexAddr (el_run rfl) (size_run rfl) rfl rfl rfl (by omega))) ?_
  refine OPS.val rfl rfl rfl (Ev.fieldAddr (fld_run rfl) rfl) ?_
  refine OPS.val rfl rfl rfl (Ev.load1 (agg_run rfl) rfl (by assumption)) ?_
  refine OPS.val rfl rfl rfl (Ev.not rfl) ?_
  refine OPS.nil ?_
  refine WP.cond rfl (fun hc4 => ?_) (fun hc4 => ?_)
  · refine WP.seq ?_
    refine WP.region ?_
    refine OPS.val rfl rfl rfl ((by exact Ev.loadO 0 H rfl (agg_run rfl) (size_run rfl) (by rfl) rfl)) ?_
    refine OPS.val rfl rfl rfl (Ev.mvI rfl) ?_
    refine OPS.store 1 _ rfl rfl rfl (size_run rfl) rfl (cA rfl) rfl rfl H rfl (by simp) ?_
    clear H; intro w H; try simp only [List.set_cons_zero, List.set_cons_succ, putL, Nat.zero_add] at H
    refine OPS.val rfl rfl rfl (Ev.asI rfl) ?_
    refine OPS.nil ?_
    refine WP.ret ⟨[_, _], ⟨(by exact resCellA 1 H rfl (agg_run rfl) (size_run rfl) (by rfl) rfl), rfl, trivial⟩, ?_⟩
    have hkf : kn sts t = false := by rw [hkt]; simpa using hc4
    exact ⟨g15, on, amt, rfl, hol, hfl, reached_isMax hN.nodes hs hsp hfl hkf, H.reidx [3] (by decide) rfl⟩
  have hkf : kn sts t = true := by rw [hkt]; simpa using hc4
  obtain ⟨ks, hkl, hP⟩ := path_of hsp.tree n t ht hkf (hsp.pos t ht hkf).2
  obtain ⟨m1, m2, m3⟩ := pushMin_spec sts ks 65536 (by omega) fun x hx => by obtain ⟨p, _, hE⟩ := hP.edge x hx; exact hE.room_pos
  have hfl2 := push_isFlow (by omega) hst hP m3 hfl
  have hamt2 := amt_le hN ⟨by omega, by omega⟩ (by omega) hfl2
  have hga : ga ≠ g15 := by have := H.nodup; simp at this; exact this.2.2
  refine WP.skip ?_
  refine WP.region ?_
  refine OPS.val rfl rfl rfl (Ev.mvI rfl) ?_
  refine OPS.val rfl rfl rfl ((by exact Ev.loadO 0 H rfl (agg_run rfl) (size_run rfl) (by rfl) rfl)) ?_
  refine OPS.val rfl rfl rfl (Ev.mvS rfl) ?_
  refine OPS.val rfl rfl rfl (Ev.mvI rfl) ?_
  refine OPS.val rfl rfl rfl (Ev.mvI rfl) ?_
  have hpu := flowPush g15 A (some ⟨ga, 0, none⟩) l.length cap l.length n n s t 65536 s t rfl rfl sts on ks w hrow (fun _ b o he => by cases he; simpa using hga) (hP.chain hsl hol) (by omega) (by omega) (fun i h => by have := hob i h; omega) (H.restart (L := [⟨g8, 52, [I n, .slice A l.length cap, .slice (some ⟨g15, 0, none⟩) l.length l.length]⟩, ⟨g6, 52, [I 0, .slice none 0 0, .slice none 0 0]⟩, ⟨ga, 60, sts.flatMap stepCells⟩, ⟨g15, 3, on.map I⟩]) ((((List.Sublist.refl _).cons _).cons _).cons _))
  rw [hol, hsl] at hpu
  refine OPS.call (d := some 33) rfl rfl rfl (EvC.func (fun_run rfl)) (hpu) ?_
  rintro _ w ⟨rfl, Hc⟩
  refine ⟨_, rfl, ?_⟩
  replace H := SH.call (L1 := [⟨g8, 52, [I n, .slice A l.length cap, .slice (some ⟨g15, 0, none⟩) l.length l.length]⟩, ⟨g6, 52, [I 0, .slice none 0 0, .slice none 0 0]⟩, ⟨ga, 60, sts.flatMap stepCells⟩]) (Lv := [⟨g15, 3, on.map I⟩]) H Hc
  clear Hc hpu
  refine OPS.val rfl rfl rfl (Ev.add rfl rfl (by unfold fits; omega)) ?_
  refine OPS.val rfl rfl rfl (Ev.asI rfl) ?_
  refine OPS.nil ?_
  exact ⟨(by repeat (first | exact Agree.refl _ _ | exact Agree.mix _ _ _ | refine Agree.upd rfl ?_ | refine Agree.mix2 rfl ?_)), k - (pushMin sts ks 65536).toNat, by omega, pushOn sts ks (pushMin sts ks 65536) on, amt + pushMin sts ks 65536, by rw [pushOn_length]; exact hol, rfl, by omega, hfl2, by omega, H.reidx [0, 1, 3] (by decide) rfl⟩
end Go.Proofs.Ythegjmgljolalaa
