/-
  Walks: greatest, Most.
-/
import Derived.Test.YtgjfjbphngamgaaFM1
set_option linter.all false
namespace Go.Proofs.Ytgjfjbphngamgaa.Flo
open Go Go.W Go.RowKit

/-- a network as Check lets it pass -/
structure NetOk (n : Nat) (l : List Arc) : Prop where
  n1 : 1 ≤ n
  n2 : n ≤ 64
  len : l.length ≤ 512
  nodes : NodesOk n l
  caps : ∀ a ∈ l, (0 ≤ a.cap ∧ a.cap ≤ 65536) ∧ (0 ≤ a.cost ∧ a.cost ≤ 65536)
theorem amt_le {n : Nat} {l : List Arc} {s t : Int} {on : List Int} {amt : Int} (hN : NetOk n l) (hs : 0 ≤ s ∧ s < n) (hst : s ≠ t) (hf : IsFlow n l s t on amt) : amt ≤ 65536 * l.length := by
  have h := weak_dual hf hN.nodes hs (S := fun u => decide (u = s)) (by simp) (by simp; omega)
  have := cutCap_le (fun u => decide (u = s)) l fun a ha => (hN.caps a ha).1
  omega

set_option maxHeartbeats 1000000 in
theorem flowGreatest (n s t : Nat) (A : Option Addr) (l : List Arc) (cap : Nat) (w0 : World) (hN : NetOk n l) (hs : s < n) (ht : t < n) (hst : s ≠ t) (hz : ArcsAt w0 A l) :
    Calls Try.prog 76 #[.agg #[I n, .slice A l.length cap], I s, I t] w0
      fun e w' => ∃ (gon : Nat) (on : List Int) (amt : Int), e = .returned (.tuple #[.agg #[I n, .slice A l.length cap, .slice (some ⟨gon, 0, none⟩) l.length l.length], I amt]) ∧ on.length = l.length ∧ IsFlow n l s t on amt ∧ IsMax n l s t amt ∧ SH w0 [] w' [⟨gon, 3, on.map I⟩] := by
  have H := SH.refl w0
  have hlen := hN.len
  have hn2 := hN.n2
  refine Calls.ofWPc Try.func76 rfl Try.results76 Try.ntmps76 rfl ?_
  refine WP.seq ?_
  refine WP.region ?_
  refine OPS.box rfl rfl rfl rfl (cA rfl) H ?_
  clear H; intro g3 w H
  refine OPS.alloc rfl rfl rfl rfl (zero_run rfl) rfl H ?_
  clear H; intro g6 w H
  refine OPS.val rfl rfl rfl (Ev.asI rfl) ?_
  refine OPS.nil ?_
  refine WP.seq ?_
  refine WP.rheldC [8, 11, 12, 13, 14, 15, 16] (fun u w' => ∃ g8 g15 : Nat, u 8 = .pointer (some ⟨g8, 0, none⟩) ∧ SH w0 [] w' [⟨g8, 111, [I n, .slice A l.length cap, .slice (some ⟨g15, 0, none⟩) l.length l.length]⟩, ⟨g6, 111, [I 0, .slice none 0 0, .slice none 0 0]⟩, ⟨g15, 3, (List.replicate l.length 0).map I⟩]) mixed H ?_ ?_
  · clear H; intro w hbw1 H
    refine OPH.take 0 rfl rfl rfl rfl (by kernel_rfl) (by kernel_rfl) (by kernel_rfl) rfl (by exact H) (fun w H => (by exact Ev.loadO 1 H rfl (agg_run rfl) (size_run rfl) (by rfl) rfl)) ?_
    refine OPH.take 1 rfl rfl rfl rfl (by kernel_rfl) (by kernel_rfl) (by kernel_rfl) rfl (by exact H) (fun w H => Ev.fieldAddr (fld_run rfl) rfl) ?_
    refine OPH.take 2 rfl rfl rfl rfl (by kernel_rfl) (by kernel_rfl) (by kernel_rfl) rfl (by exact H) (fun w H => Ev.load1 (agg_run rfl) rfl (by exact H.ldL 1 rfl _ rfl)) ?_
    refine OPH.take 3 rfl rfl rfl rfl (by kernel_rfl) (by kernel_rfl) (by kernel_rfl) rfl (by exact H) (fun w H => Ev.len (el_run rfl) rfl) ?_
    refine OPH.all [4, 6] (by kernel_rfl) (by simp) rfl ?_
    intro i hi; simp only [List.mem_cons, List.not_mem_nil, or_false] at hi
    rcases hi with rfl | rfl
    · refine ⟨_, rfl, ?_⟩
      refine OPS.makeSlice rfl rfl rfl rfl (sl_run rfl) rfl rfl rfl (by omega) (by omega) H ?_
      clear H; intro g15 w H
      refine OPS.nil ?_
      refine ⟨(by exact H.drop (List.sublist_cons_self _ _)), ?_⟩
      refine OPH.take 5 rfl rfl rfl rfl (by kernel_rfl) (by kernel_rfl) (by kernel_rfl) rfl (by exact H.drop (List.sublist_cons_self _ _)) (fun w H => Ev.build (bld_111_0_1 rfl rfl)) ?_
      refine OPH.all [6] (by kernel_rfl) (by simp) rfl ?_
      intro i hi; simp only [List.mem_cons, List.not_mem_nil, or_false] at hi
      rcases hi with rfl
      · refine ⟨_, rfl, ?_⟩
        refine OPS.alloc rfl rfl rfl rfl (zero_run rfl) rfl H ?_
        clear H; intro g8 w H
        refine OPS.nil ?_
        refine ⟨(by exact H.drop ((List.sublist_cons_self _ _).trans (List.sublist_cons_self _ _))), ?_⟩
        refine OPH.all [7] (by kernel_rfl) (by simp) rfl ?_
        intro i hi; simp only [List.mem_cons, List.not_mem_nil, or_false] at hi
        rcases hi with rfl
        · refine ⟨_, rfl, ?_⟩
          refine OPS.store 0 _ rfl rfl rfl (size_run rfl) rfl (cA rfl) rfl rfl H rfl (by simp) ?_
          clear H; intro w H; try simp only [List.set_cons_zero, List.set_cons_succ, putL, Nat.zero_add] at H
          refine OPS.nil ?_
          refine ⟨(by exact H.drop ((List.sublist_cons_self _ _).trans (List.sublist_cons_self _ _))), ?_⟩
          refine OPH.done (by kernel_rfl) ?_
          refine ⟨(by repeat (first | exact Agree.refl _ _ | exact Agree.mix _ _ _ | refine Agree.upd rfl ?_ | refine Agree.mix2 rfl ?_)), g8, g15, rfl, ?_⟩; rw [← mkL_ones]; exact H.reidx [0, 2, 1] (by decide) rfl
    · refine ⟨_, rfl, ?_⟩
      refine OPS.alloc rfl rfl rfl rfl (zero_run rfl) rfl H ?_
      clear H; intro g8 w H
      refine OPS.nil ?_
      refine ⟨(by exact H.drop (List.sublist_cons_self _ _)), ?_⟩
      refine OPH.all [4] (by kernel_rfl) (by simp) rfl ?_
      intro i hi; simp only [List.mem_cons, List.not_mem_nil, or_false] at hi
      rcases hi with rfl
      · refine ⟨_, rfl, ?_⟩
        refine OPS.makeSlice rfl rfl rfl rfl (sl_run rfl) rfl rfl rfl (by omega) (by omega) H ?_
        clear H; intro g15 w H
        refine OPS.nil ?_
        refine ⟨(by exact H.drop ((List.sublist_cons_self _ _).trans (List.sublist_cons_self _ _))), ?_⟩
        refine OPH.take 5 rfl rfl rfl rfl (by kernel_rfl) (by kernel_rfl) (by kernel_rfl) rfl (by exact H.drop ((List.sublist_cons_self _ _).trans (List.sublist_cons_self _ _))) (fun w H => Ev.build (bld_111_0_1 rfl rfl)) ?_
        refine OPH.all [7] (by kernel_rfl) (by simp) rfl ?_
        intro i hi; simp only [List.mem_cons, List.not_mem_nil, or_false] at hi
        rcases hi with rfl
        · refine ⟨_, rfl, ?_⟩
          refine OPS.store 1 _ rfl rfl rfl (size_run rfl) rfl (cA rfl) rfl rfl H rfl (by simp) ?_
          clear H; intro w H; try simp only [List.set_cons_zero, List.set_cons_succ, putL, Nat.zero_add] at H
          refine OPS.nil ?_
          refine ⟨(by exact H.drop ((List.sublist_cons_self _ _).trans (List.sublist_cons_self _ _))), ?_⟩
          refine OPH.done (by kernel_rfl) ?_
          refine ⟨(by repeat (first | exact Agree.refl _ _ | exact Agree.mix _ _ _ | refine Agree.upd rfl ?_ | refine Agree.mix2 rfl ?_)), g8, g15, rfl, ?_⟩; rw [← mkL_ones]; exact H.reidx [1, 2, 0] (by decide) rfl
  clear H
  rintro u w ⟨g8, g15, h8, H⟩
  refine WP.know (t := 8) h8 ?_
  refine WP.seq ?_
  refine WP.region ?_
  refine OPS.val rfl rfl rfl (Ev.asI rfl) ?_
  refine OPS.nil ?_
  refine WP.block ?_
  refine WP.loop [7, 9, 10, 17, 18, 19, 20, 21, 22, 23, 24, 25, 26, 27, 28, 29, 30, 31, 32, 33, 34] (fun k e w' => ∃ (on : List Int) (amt : Int), on.length = l.length ∧ e 9 = I amt ∧ 0 ≤ amt ∧ IsFlow n l s t on amt ∧ amt + k = 65536 * l.length ∧ SH w0 [] w' [⟨g8, 111, [I n, .slice A l.length cap, .slice (some ⟨g15, 0, none⟩) l.length l.length]⟩, ⟨g6, 111, [I 0, .slice none 0 0, .slice none 0 0]⟩, ⟨g15, 3, on.map I⟩]) (65536 * l.length) (⟨List.replicate l.length 0, 0, by simp, rfl, by omega, zero_isFlow fun a ha => (hN.caps a ha).1.1, by simp, H⟩) ?_
  clear H
  rintro k u2 w ⟨on, amt, hol, h9, ham, hfl, hk, H⟩
  refine WP.know (t := 9) h9 ?_
  have hamt := amt_le hN ⟨by omega, by omega⟩ (by omega) hfl
  have hob : ∀ i (h : i < on.length), 0 ≤ on[i] ∧ on[i] ≤ 65536 := fun i h => by
    have h1 := hfl.v.bd i (by omega) h
    have h2 := (hN.caps l[i] (List.getElem_mem (by omega))).1
    omega
  have hsp := reachFin_spec (s := s) (on := on) hN.nodes hol hs
  refine WP.block ?_
  refine WP.seq ?_
  refine WP.region ?_
  refine OPS.val rfl rfl rfl ((by exact Ev.loadO 0 H rfl (agg_run rfl) (size_run rfl) (by rfl) rfl)) ?_
  refine OPS.val rfl rfl rfl (Ev.mvI rfl) ?_
  have hfr := flowReach n s A (some ⟨g15, 0, none⟩) l on cap l.length w hs hn2 (hz.sh H) (onesOwn H 2 rfl) hol (by omega) (fun i h => by have := hN.caps l[i] (List.getElem_mem h); omega) (fun i h => by have := hob i h; omega) (fun i h => hN.nodes l[i] (List.getElem_mem h))
  rw [hol] at hfr
  refine OPS.call (d := some 19) rfl rfl rfl (EvC.func (fun_run rfl)) (hfr) ?_
  rintro _ w ⟨ga, rfl, Hc⟩
  refine ⟨_, rfl, ?_⟩
  replace H := SH.call (L1 := [⟨g8, 111, [I n, .slice A l.length cap, .slice (some ⟨g15, 0, none⟩) l.length l.length]⟩, ⟨g6, 111, [I 0, .slice none 0 0, .slice none 0 0]⟩, ⟨g15, 3, on.map I⟩]) (Lv := []) (by simpa using H) Hc
  clear Hc hfr
  generalize hst2 : reachFin l on n s = sts at H hsp
  replace H := H.reidx (L' := [⟨g8, 111, [I n, .slice A l.length cap, .slice (some ⟨g15, 0, none⟩) l.length l.length]⟩, ⟨g6, 111, [I 0, .slice none 0 0, .slice none 0 0]⟩, ⟨ga, 116, sts.flatMap stepCells⟩, ⟨g15, 3, on.map I⟩]) [0, 1, 3, 2] (by decide) rfl
  have hrow := rowsOwn' stepCells_len H 2 rfl
  have hsl := hsp.len
  refine OPS.val rfl rfl rfl (Ev.asS rfl) ?_
  refine OPS.nil ?_
  refine WP.seq ?_
  refine WP.seq ?_
  obtain ⟨_, _, e1, b0, b1, b2, b3, b4, b5, _⟩ := hrow t (by omega)
  cases e1
  have hkt : kn sts t = sts[t].known := by unfold kn; simp [hsl, ht]
  refine WP.region ?_
  refine OPS.val rfl rfl rfl (Ev.mvS rfl) ?_
  refine OPS.val rfl rfl rfl (Ev.mvI rfl) ?_
  refine OPS.val rfl rfl rfl ((by exact Ev.indexAddr (el_run rfl) (size_run rfl) rfl rfl rfl (by omega))) ?_
  refine OPS.val rfl rfl rfl (Ev.fieldAddr (fld_run rfl) rfl) ?_
  refine OPS.val rfl rfl rfl (Ev.load1 (agg_run rfl) rfl (by assumption)) ?_
  refine OPS.val rfl rfl rfl (Ev.not rfl) ?_
  refine OPS.nil ?_
  refine WP.cond rfl (fun hc4 => ?_) (fun hc4 => ?_)
  · refine WP.seq ?_
    refine WP.region ?_
    refine OPS.val rfl rfl rfl ((by exact Ev.loadO 0 H rfl (agg_run rfl) (size_run rfl) (by rfl) rfl)) ?_
    refine OPS.val rfl rfl rfl (Ev.mvI rfl) ?_
    refine OPS.store 1 _ rfl rfl rfl (size_run rfl) rfl (cA rfl) rfl rfl H rfl (by simp) ?_
    clear H; intro w H; try simp only [List.set_cons_zero, List.set_cons_succ, putL, Nat.zero_add] at H
    refine OPS.val rfl rfl rfl (Ev.asI rfl) ?_
    refine OPS.nil ?_
    refine WP.ret ⟨[_, _], ⟨(by exact resCellA 1 H rfl (agg_run rfl) (size_run rfl) (by rfl) rfl), rfl, trivial⟩, ?_⟩
    have hkf : kn sts t = false := by rw [hkt]; simpa using hc4
    exact ⟨g15, on, amt, rfl, hol, hfl, reached_isMax hN.nodes hs hsp hfl hkf, H.reidx [3] (by decide) rfl⟩
  have hkf : kn sts t = true := by rw [hkt]; simpa using hc4
  obtain ⟨ks, hkl, hP⟩ := path_of hsp.tree n t ht hkf (hsp.pos t ht hkf).2
  obtain ⟨m1, m2, m3⟩ := pushMin_spec sts ks 65536 (by omega) fun x hx => by obtain ⟨p, _, hE⟩ := hP.edge x hx; exact hE.room_pos
  have hfl2 := push_isFlow (by omega) hst hP m3 hfl
  have hamt2 := amt_le hN ⟨by omega, by omega⟩ (by omega) hfl2
  have hga : ga ≠ g15 := by have := H.nodup; simp at this; exact this.2.2
  refine WP.skip ?_
  refine WP.region ?_
  refine OPS.val rfl rfl rfl (Ev.mvI rfl) ?_
  refine OPS.val rfl rfl rfl ((by exact Ev.loadO 0 H rfl (agg_run rfl) (size_run rfl) (by rfl) rfl)) ?_
  refine OPS.val rfl rfl rfl (Ev.mvS rfl) ?_
  refine OPS.val rfl rfl rfl (Ev.mvI rfl) ?_
  refine OPS.val rfl rfl rfl (Ev.mvI rfl) ?_
  have hpu := flowPush g15 A (some ⟨ga, 0, none⟩) l.length cap l.length n n s t 65536 s t rfl rfl sts on ks w hrow (fun _ b o he => by cases he; simpa using hga) (hP.chain hsl hol) (by omega) (by omega) (fun i h => by have := hob i h; omega) (H.restart (L := [⟨g8, 111, [I n, .slice A l.length cap, .slice (some ⟨g15, 0, none⟩) l.length l.length]⟩, ⟨g6, 111, [I 0, .slice none 0 0, .slice none 0 0]⟩, ⟨ga, 116, sts.flatMap stepCells⟩, ⟨g15, 3, on.map I⟩]) ((((List.Sublist.refl _).cons _).cons _).cons _))
  rw [hol, hsl] at hpu
  refine OPS.call (d := some 33) rfl rfl rfl (EvC.func (fun_run rfl)) (hpu) ?_
  rintro _ w ⟨rfl, Hc⟩
  refine ⟨_, rfl, ?_⟩
  replace H := SH.call (L1 := [⟨g8, 111, [I n, .slice A l.length cap, .slice (some ⟨g15, 0, none⟩) l.length l.length]⟩, ⟨g6, 111, [I 0, .slice none 0 0, .slice none 0 0]⟩, ⟨ga, 116, sts.flatMap stepCells⟩]) (Lv := [⟨g15, 3, on.map I⟩]) H Hc
  clear Hc hpu
  refine OPS.val rfl rfl rfl (Ev.add rfl rfl (by unfold fits; omega)) ?_
  refine OPS.val rfl rfl rfl (Ev.asI rfl) ?_
  refine OPS.nil ?_
  exact ⟨(by repeat (first | exact Agree.refl _ _ | exact Agree.mix _ _ _ | refine Agree.upd rfl ?_ | refine Agree.mix2 rfl ?_)), k - (pushMin sts ks 65536).toNat, by omega, pushOn sts ks (pushMin sts ks 65536) on, amt + pushMin sts ks 65536, by rw [pushOn_length]; exact hol, rfl, by omega, hfl2, by omega, H.reidx [0, 1, 3] (by decide) rfl⟩
end Go.Proofs.Ytgjfjbphngamgaa.Flo

/-
  Walk: Most.
-/
set_option linter.all false
namespace Go.Proofs.Ytgjfjbphngamgaa.Flo
open Go Go.W Go.RowKit

theorem arcsErr_ok {n : Int} : ∀ {l : List Arc}, arcsErr n l = 0 → ∀ a ∈ l, arcBad n a = false ∧ arcRange a = false
  | [], _, a, ha => by cases ha
  | b :: l, h, a, ha => by
    rw [arcsErr] at h
    split at h
    · cases h
    · rename_i h1
      split at h
      · cases h
      · rename_i h2
        rcases List.mem_cons.1 ha with rfl | ha
        · exact ⟨by simpa using h1, by simpa using h2⟩
        · exact arcsErr_ok h a ha
theorem netOk_of {n : Int} {l : List Arc} (h : netErr n l = 0) : ∃ m : Nat, n = m ∧ NetOk m l := by
  unfold netErr at h
  split at h
  · cases h
  · rename_i h1
    split at h
    · cases h
    · rename_i h2
      have h1 : 1 ≤ n ∧ n ≤ 64 := by simp at h1; omega
      obtain ⟨m, rfl⟩ := Int.eq_ofNat_of_zero_le (show 0 ≤ n by omega)
      refine ⟨m, rfl, by omega, by omega, by simp at h2; omega, fun a ha => ?_, fun a ha => ?_⟩
      · have := (arcsErr_ok h a ha).1
        simp [arcBad, isNode] at this; omega
      · have := (arcsErr_ok h a ha).2
        simp [arcRange] at this; omega
structure EndsOk (n f t : Int) (l : List Arc) (m s d : Nat) : Prop where
  hn : n = m
  hf : f = s
  ht : t = d
  net : NetOk m l
  s1 : s < m
  d1 : d < m
  ne : s ≠ d
theorem endsOk_of {n f t : Int} {l : List Arc} (h : endsErr n l f t = 0) : ∃ m s d : Nat, EndsOk n f t l m s d := by
  unfold endsErr at h
  split at h
  · rename_i h1; exact absurd h h1
  · rename_i h1
    split at h
    · cases h
    · rename_i h2
      split at h
      · cases h
      · rename_i h3
        obtain ⟨m, rfl, hN⟩ := netOk_of (by simpa using h1)
        simp [isNode] at h2
        obtain ⟨s, rfl⟩ := Int.eq_ofNat_of_zero_le (show 0 ≤ f by omega)
        obtain ⟨d, rfl⟩ := Int.eq_ofNat_of_zero_le (show 0 ≤ t by omega)
        exact ⟨m, s, d, rfl, rfl, rfl, hN, by omega, by omega, by omega⟩
/-- what Most returns -/
def MostRet (n f t : Int) (l : List Arc) (r e : Int) : Prop := e = endsErr n l f t ∧ (e ≠ 0 → r = 0) ∧ (e = 0 → ∃ m : Nat, n = m ∧ IsMax m l f t r)

theorem flowMost (n f t : Int) (A : Option Addr) (l : List Arc) (cap : Nat) (w0 : World) (hz : ArcsAt w0 A l) :
    Calls Try.prog 57 #[.agg #[I n, .slice A l.length cap], I f, I t] w0 fun e w' => ∃ r er : Int, e = .returned (.tuple #[I r, I er]) ∧ MostRet n f t l r er ∧ Below w0.heap.size w0 w' := by
  have H := SH.refl w0
  refine Calls.ofWP Try.func57 rfl Try.results57 Try.ntmps57 rfl ?_
  refine WP.seq ?_
  refine WP.region ?_
  refine OPS.box rfl rfl rfl rfl (cA rfl) H ?_
  clear H; intro g3 w H
  refine OPS.val rfl rfl rfl (Ev.asI rfl) ?_
  refine OPS.val rfl rfl rfl (Ev.asI rfl) ?_
  refine OPS.nil ?_
  refine WP.seq ?_
  refine WP.seq ?_
  refine WP.region ?_
  refine OPS.val rfl rfl rfl ((by exact Ev.loadO 0 H rfl (agg_run rfl) (size_run rfl) (by rfl) rfl)) ?_
  refine OPS.val rfl rfl rfl (Ev.mvI rfl) ?_
  refine OPS.val rfl rfl rfl (Ev.mvI rfl) ?_
  refine OPS.call (d := some 14) rfl rfl rfl (EvC.func (fun_run rfl)) (flowEnds n f t A l cap w (hz.sh H)) ?_
  rintro _ w ⟨rfl, hb⟩
  refine ⟨_, rfl, ?_⟩
  replace H := H.toBelow hb; clear hb
  refine OPS.val rfl rfl rfl (Ev.asI rfl) ?_
  refine OPS.nil ?_
  refine WP.seq ?_
  refine WP.region ?_
  refine OPS.val rfl rfl rfl (Ev.mvI rfl) ?_
  refine OPS.val rfl rfl rfl (Ev.neq rfl rfl) ?_
  refine OPS.nil ?_
  refine WP.cond rfl (fun hc2 => ?_) (fun hc2 => ?_)
  · refine WP.seq ?_
    refine WP.region ?_
    refine OPS.val rfl rfl rfl (Ev.mvI rfl) ?_
    refine OPS.val rfl rfl rfl (Ev.asI rfl) ?_
    refine OPS.val rfl rfl rfl (Ev.asI rfl) ?_
    refine OPS.nil ?_
    refine WP.ret ⟨_, rfl, ?_⟩
    have h : endsErr n l f t ≠ 0 := by simpa using hc2
    exact ⟨0, _, rfl, ⟨rfl, fun _ => rfl, fun h0 => absurd h0 h⟩, H.below⟩
  have h0 : endsErr n l f t = 0 := by simpa using hc2
  obtain ⟨m, s, d, hE⟩ := endsOk_of h0
  have e1 := hE.hn
  have e2 := hE.hf
  have e3 := hE.ht
  subst e1 e2 e3
  refine WP.skip ?_
  refine WP.seq ?_
  refine WP.region ?_
  refine OPS.val rfl rfl rfl ((by exact Ev.loadO 0 H rfl (agg_run rfl) (size_run rfl) (by rfl) rfl)) ?_
  refine OPS.val rfl rfl rfl (Ev.mvI rfl) ?_
  refine OPS.val rfl rfl rfl (Ev.mvI rfl) ?_
  refine OPS.call (d := some 22) rfl rfl rfl (EvC.func (fun_run rfl)) (flowGreatest m s d A l cap w hE.net hE.s1 hE.d1 hE.ne (hz.sh H)) ?_
  rintro _ w ⟨gon, on, amt, rfl, hol, _, hmax, Hc⟩
  refine ⟨_, rfl, ?_⟩
  replace H := SH.call (Lv := []) (by simpa using H) Hc
  clear Hc
  refine OPS.val rfl rfl rfl (Ev.mvT rfl) ?_
  refine OPS.val rfl rfl rfl (Ev.extract rfl rfl) ?_
  refine OPS.val rfl rfl rfl (Ev.extract rfl rfl) ?_
  refine OPS.alloc rfl rfl rfl rfl (zero_run rfl) rfl H ?_
  clear H; intro g9 w H
  refine OPS.store 0 _ rfl rfl rfl (size_run rfl) rfl (cA rfl) rfl rfl H rfl (by simp) ?_
  clear H; intro w H; try simp only [List.set_cons_zero, List.set_cons_succ, putL, Nat.zero_add] at H
  refine OPS.val rfl rfl rfl (Ev.asI rfl) ?_
  refine OPS.nil ?_
  refine WP.seq ?_
  refine WP.region ?_
  refine OPS.val rfl rfl rfl (Ev.mvI rfl) ?_
  refine OPS.val rfl rfl rfl (Ev.asI rfl) ?_
  refine OPS.val rfl rfl rfl (Ev.asI rfl) ?_
  refine OPS.nil ?_
  refine WP.ret ⟨_, rfl, ?_⟩
  exact ⟨amt, 0, rfl, ⟨h0.symm, fun h => absurd rfl h, fun _ => ⟨m, rfl, hmax⟩⟩, H.below⟩
end Go.Proofs.Ytgjfjbphngamgaa.Flo

/-
  Walk: residue.each, for functions whose effect is told by a relation.
-/
set_option linter.all false
namespace Go.Proofs.Ytgjfjbphngamgaa.Flo
open Go Go.W Go.RowKit

set_option maxHeartbeats 1000000 in
theorem flowEach2 {σ : Type} (Lv : σ → List Blk) (gs : List Nat) (I1 I2 : Nat → σ → Prop) (fv : Nat) (caps : List Value)
    (n : Int) (A B : Option Addr) (l : List Arc) (on : List Int) (cap cap2 : Nat) (s0 : σ) (w0 : World)
    (hfun : funT fv = true)
    (hz : ArcsAt w0 A l) (hA : l ≠ [] → Off A gs) (ho : IntsAt w0 B on) (hB : on ≠ [] → Off B gs) (hlen : on.length = l.length) (hl : l.length ≤ 4096)
    (hcap : ∀ i (h : i < l.length), -1000000 ≤ l[i].cap ∧ l[i].cap ≤ 1000000 ∧ -1000000 ≤ l[i].cost ∧ l[i].cost ≤ 1000000) (hon : ∀ i (h : i < on.length), -1000000000 ≤ on[i] ∧ on[i] ≤ 1000000000)
    (hgs : (Lv s0).map (·.g) = gs)
    (hvF : ∀ i (h : i < l.length) (h2 : i < on.length) s w, I1 i s → on[i] < l[i].cap → SH w0 gs w (Lv s) → SH w ((Lv s).map (·.g)) w (Lv s) → Calls Try.prog fv ([I l[i].f, I l[i].t, I i, I (l[i].cap - on[i]), I l[i].cost, .bool true] ++ caps).toArray w fun e w' => e = .returned (.tuple #[]) ∧ ∃ s', I2 i s' ∧ SH w ((Lv s).map (·.g)) w' (Lv s'))
    (hsF : ∀ i (h : i < l.length) (h2 : i < on.length) s, I1 i s → ¬ on[i] < l[i].cap → I2 i s)
    (hvB : ∀ i (h : i < l.length) (h2 : i < on.length) s w, I2 i s → 0 < on[i] → SH w0 gs w (Lv s) → SH w ((Lv s).map (·.g)) w (Lv s) → Calls Try.prog fv ([I l[i].t, I l[i].f, I i, I on[i], I (-l[i].cost), .bool false] ++ caps).toArray w fun e w' => e = .returned (.tuple #[]) ∧ ∃ s', I1 (i + 1) s' ∧ SH w ((Lv s).map (·.g)) w' (Lv s'))
    (hsB : ∀ i (h : i < l.length) (h2 : i < on.length) s, I2 i s → ¬ 0 < on[i] → I1 (i + 1) s)
    (hs0 : I1 0 s0) (H0 : SH w0 gs w0 (Lv s0)) :
    Calls Try.prog 81 #[.agg #[I n, .slice A l.length cap, .slice B on.length cap2], .func (.func fv) #[] caps.toArray] w0 fun e w' => e = .returned (.tuple #[]) ∧ ∃ s', I1 l.length s' ∧ SH w0 gs w' (Lv s') := by
  have H := H0
  refine Calls.ofWP Try.func81 rfl Try.results81 Try.ntmps81 rfl ?_
  refine WP.seq ?_
  refine WP.region ?_
  refine OPS.box rfl rfl rfl rfl (cA rfl) H ?_
  clear H; intro g2 w H
  refine OPS.nil ?_
  refine WP.seq ?_
  refine WP.region ?_
  refine OPS.val rfl rfl rfl (Ev.fieldAddr (fld_run rfl) rfl) ?_
  refine OPS.val rfl rfl rfl (Ev.fieldAddr (fld_run rfl) rfl) ?_
  refine OPS.val rfl rfl rfl (Ev.load1 (agg_run rfl) rfl (by exact H.ldL 0 rfl _ rfl)) ?_
  refine OPS.val rfl rfl rfl (Ev.len (el_run rfl) rfl) ?_
  refine OPS.val rfl rfl rfl (Ev.mvI rfl) ?_
  refine OPS.nil ?_
  refine WP.block ?_
  refine WP.loop [4, 5, 10, 11, 12, 13, 14, 15, 16, 17, 18, 19, 20, 21, 22, 23, 24, 25, 26, 27, 28, 29, 30, 31, 32, 33, 34, 35, 36, 37, 38, 39, 40, 41, 42, 43, 44, 45, 46, 47, 48, 49, 50, 51, 52, 53, 54, 55, 56, 57, 58, 59, 60, 61] (fun k e w' => ∃ (j : Nat) (s : σ), j + k = l.length ∧ e 10 = .int .i64 j ∧ SH w0 gs w' ([⟨g2, 111, [I n, .slice A l.length cap, .slice B on.length cap2]⟩] ++ Lv s) ∧ I1 j s) (l.length) (⟨0, s0, by omega, rfl, H, hs0⟩) ?_
  clear H
  rintro k u w ⟨j, s, hk, h10, H, hi⟩
  refine WP.know (t := 10) h10 ?_
  refine WP.seq ?_
  refine WP.region ?_
  refine OPS.val rfl rfl rfl (Ev.lss rfl rfl) ?_
  refine OPS.nil ?_
  refine WP.seq ?_
  refine WP.cond rfl (fun hc2 => ?_) (fun hc2 => ?_)
  · have hlt : j < l.length := by simpa using hc2
    have hlt2 : j < on.length := by omega
    obtain ⟨b, o, rfl, hc⟩ := hz j hlt
    obtain ⟨b2, o2, rfl, hx⟩ := ho j hlt2
    have hbS : b ∉ gs := hA (List.ne_nil_of_length_pos (by omega)) b o rfl
    have hbS2 : b2 ∉ gs := hB (List.ne_nil_of_length_pos (by omega)) b2 o2 rfl
    have hc' := cellsAt_shS H hbS hc
    have hcb := hcap j hlt
    have hob := hon j hlt2
    refine WP.skip ?_
    refine WP.seq ?_
    refine WP.block ?_
    refine WP.seq ?_
    refine WP.region ?_
    refine OPS.val rfl rfl rfl (Ev.mvI rfl) ?_
    refine OPS.val rfl rfl rfl ((by exact Ev.indexAddr (el_run rfl) (size_run rfl) rfl rfl rfl (by omega))) ?_
    refine OPS.val rfl rfl rfl ((by (change Ev _ _ _ _ (Op.load 96 (Operand.tmp 13)) _; exact Ev.loadN (arcCells l[j]) (agg_run rfl) (size_run rfl) rfl hc'))) ?_
    refine OPS.alloc rfl rfl rfl rfl (zero_run rfl) rfl H ?_
    clear H; intro g5 w H
    refine OPS.val rfl rfl rfl (Ev.asI rfl) ?_
    refine OPS.store 0 _ rfl rfl rfl (size_run rfl) rfl (cA rfl) rfl rfl H rfl (by simp) ?_
    clear H; intro w H; try simp only [List.set_cons_zero, List.set_cons_succ, putL, Nat.zero_add] at H
    refine OPS.nil ?_
    refine WP.seq ?_
    refine WP.seq ?_
    refine WP.rstill mixed (by kernel_rfl) H ?_
    clear H; intro w hbw4 H
    refine OPS.val rfl rfl rfl (Ev.fieldAddr (fld_run rfl) rfl) ?_
    refine OPS.val rfl rfl rfl (Ev.load1 (agg_run rfl) rfl (by exact H.ldL 1 rfl _ rfl)) ?_
    refine OPS.val rfl rfl rfl (Ev.mvI rfl) ?_
    refine OPS.val rfl rfl rfl ((by exact Ev.indexAddr1 (el_run rfl) (size_run rfl) rfl rfl rfl (by omega))) ?_
    refine OPS.val rfl rfl rfl (Ev.load1 (agg_run rfl) rfl (by exact H.ldS (by assumption) (by assumption))) ?_
    refine OPS.val rfl rfl rfl (Ev.fieldAddr (fld_run rfl) rfl) ?_
    refine OPS.val rfl rfl rfl (Ev.load1 (agg_run rfl) rfl (by exact H.ldL 0 rfl _ rfl)) ?_
    refine OPS.val rfl rfl rfl (Ev.lss rfl rfl) ?_
    refine OPS.nil_s ?_
    refine WP.cond rfl (fun hc4 => ?_) (fun hc4 => ?_)
    · refine WP.rtail 16 mixed (by kernel_rfl) H ?_
      clear H; intro w hbw5 H
      refine OPS.val rfl rfl rfl (Ev.mvF rfl) ?_
      refine OPS.val rfl rfl rfl (Ev.fieldAddr (fld_run rfl) rfl) ?_
      refine OPS.val rfl rfl rfl (Ev.load1 (agg_run rfl) rfl (by exact H.ldL 0 rfl _ rfl)) ?_
      refine OPS.val rfl rfl rfl (Ev.fieldAddr (fld_run rfl) rfl) ?_
      refine OPS.val rfl rfl rfl (Ev.load1 (agg_run rfl) rfl (by exact H.ldL 0 rfl _ rfl)) ?_
      refine OPS.val rfl rfl rfl (Ev.mvI rfl) ?_
      refine OPS.val rfl rfl rfl (Ev.fieldAddr (fld_run rfl) rfl) ?_
      refine OPS.val rfl rfl rfl (Ev.load1 (agg_run rfl) rfl (by exact H.ldL 0 rfl _ rfl)) ?_
      refine OPS.val rfl rfl rfl (Ev.fieldAddr (fld_run rfl) rfl) ?_
      refine OPS.val rfl rfl rfl (Ev.load1 (agg_run rfl) rfl (by exact H.ldL 1 rfl _ rfl)) ?_
      refine OPS.val rfl rfl rfl (Ev.mvI rfl) ?_
      refine OPS.val rfl rfl rfl ((by exact Ev.indexAddr1 (el_run rfl) (size_run rfl) rfl rfl rfl (by omega))) ?_
      refine OPS.val rfl rfl rfl (Ev.load1 (agg_run rfl) rfl (by exact H.ldS (by assumption) (by assumption))) ?_
      refine OPS.val rfl rfl rfl (Ev.sub rfl rfl (by unfold fits; omega)) ?_
      refine OPS.val rfl rfl rfl (Ev.fieldAddr (fld_run rfl) rfl) ?_
      refine OPS.val rfl rfl rfl (Ev.load1 (agg_run rfl) rfl (by exact H.ldL 0 rfl _ rfl)) ?_
      refine OPS.nil_s ?_
      refine OPS.call (d := some 39) rfl rfl rfl (EvC.clos rfl (fun_run (by assumption))) (hvF j hlt hlt2 s _ hi (by simpa using hc4) (H.drop ((List.sublist_cons_self _ _).trans (List.sublist_cons_self _ _))) (H.restart ((List.sublist_cons_self _ _).trans (List.sublist_cons_self _ _)))) ?_
      rintro _ w ⟨rfl, s1, hi1, Hc⟩
      refine ⟨_, rfl, ?_⟩
      replace H := SH.call (L1 := [⟨g5, 96, arcCells l[j]⟩, ⟨g2, 111, [I n, .slice (some ⟨b, o, none⟩) l.length cap, .slice (some ⟨b2, o2, none⟩) on.length cap2]⟩]) H Hc
      clear Hc hi
      refine OPS.nil ?_
      refine WP.seq ?_
      refine WP.region ?_
      refine OPS.val rfl rfl rfl (Ev.fieldAddr (fld_run rfl) rfl) ?_
      refine OPS.val rfl rfl rfl (Ev.load1 (agg_run rfl) rfl (by exact H.ldL 1 rfl _ rfl)) ?_
      refine OPS.val rfl rfl rfl (Ev.mvI rfl) ?_
      refine OPS.val rfl rfl rfl ((by exact Ev.indexAddr1 (el_run rfl) (size_run rfl) rfl rfl rfl (by omega))) ?_
      refine OPS.val rfl rfl rfl (Ev.load1 (agg_run rfl) rfl (by exact H.ldS (by assumption) (by assumption))) ?_
      refine OPS.val rfl rfl rfl (Ev.gtr rfl rfl) ?_
      refine OPS.nil ?_
      refine WP.cond rfl (fun hc6 => ?_) (fun hc6 => ?_)
      · refine WP.rtail 14 mixed (by kernel_rfl) H ?_
        clear H; intro w hbw7 H
        refine OPS.val rfl rfl rfl (Ev.mvF rfl) ?_
        refine OPS.val rfl rfl rfl (Ev.fieldAddr (fld_run rfl) rfl) ?_
        refine OPS.val rfl rfl rfl (Ev.load1 (agg_run rfl) rfl (by exact H.ldL 0 rfl _ rfl)) ?_
        refine OPS.val rfl rfl rfl (Ev.fieldAddr (fld_run rfl) rfl) ?_
        refine OPS.val rfl rfl rfl (Ev.load1 (agg_run rfl) rfl (by exact H.ldL 0 rfl _ rfl)) ?_
        refine OPS.val rfl rfl rfl (Ev.mvI rfl) ?_
        refine OPS.val rfl rfl rfl (Ev.fieldAddr (fld_run rfl) rfl) ?_
        refine OPS.val rfl rfl rfl (Ev.load1 (agg_run rfl) rfl (by exact H.ldL 1 rfl _ rfl)) ?_
        refine OPS.val rfl rfl rfl (Ev.mvI rfl) ?_
        refine OPS.val rfl rfl rfl ((by exact Ev.indexAddr1 (el_run rfl) (size_run rfl) rfl rfl rfl (by omega))) ?_
        refine OPS.val rfl rfl rfl (Ev.load1 (agg_run rfl) rfl (by exact H.ldS (by assumption) (by assumption))) ?_
        refine OPS.val rfl rfl rfl (Ev.fieldAddr (fld_run rfl) rfl) ?_
        refine OPS.val rfl rfl rfl (Ev.load1 (agg_run rfl) rfl (by exact H.ldL 0 rfl _ rfl)) ?_
        refine OPS.val rfl rfl rfl (Ev.neg rfl (by unfold fits; omega)) ?_
        refine OPS.nil_s ?_
        refine OPS.call (d := some 60) rfl rfl rfl (EvC.clos rfl (fun_run (by assumption))) (hvB j hlt hlt2 s1 _ hi1 (by simpa using hc6) (H.drop ((List.sublist_cons_self _ _).trans (List.sublist_cons_self _ _))) (H.restart ((List.sublist_cons_self _ _).trans (List.sublist_cons_self _ _)))) ?_
        rintro _ w ⟨rfl, s2, hi2, Hc⟩
        refine ⟨_, rfl, ?_⟩
        replace H := SH.call (L1 := [⟨g5, 96, arcCells l[j]⟩, ⟨g2, 111, [I n, .slice (some ⟨b, o, none⟩) l.length cap, .slice (some ⟨b2, o2, none⟩) on.length cap2]⟩]) H Hc
        clear Hc
        refine OPS.nil ?_
        refine WP.region ?_
        refine OPS.val rfl rfl rfl (Ev.add rfl rfl (by unfold fits; omega)) ?_
        refine OPS.val rfl rfl rfl (Ev.mvI rfl) ?_
        refine OPS.nil ?_
        exact ⟨(by repeat (first | exact Agree.refl _ _ | exact Agree.mix _ _ _ | refine Agree.upd rfl ?_ | refine Agree.mix2 rfl ?_)), k - 1, by omega, j + 1, _, by omega, rfl, H.drop (List.sublist_cons_self _ _), hi2⟩
      have hi2 := hsB j hlt hlt2 s1 hi1 (by simpa using hc6)
      refine WP.skip ?_
      refine WP.region ?_
      refine OPS.val rfl rfl rfl (Ev.add rfl rfl (by unfold fits; omega)) ?_
      refine OPS.val rfl rfl rfl (Ev.mvI rfl) ?_
      refine OPS.nil ?_
      exact ⟨(by repeat (first | exact Agree.refl _ _ | exact Agree.mix _ _ _ | refine Agree.upd rfl ?_ | refine Agree.mix2 rfl ?_)), k - 1, by omega, j + 1, _, by omega, rfl, H.drop (List.sublist_cons_self _ _), hi2⟩
    have hi1 := hsF j hlt hlt2 s hi (by simpa using hc4)
    clear hi
    generalize hss : s = s1 at H hi1
    refine WP.skip ?_
    refine WP.seq ?_
    refine WP.region ?_
    refine OPS.val rfl rfl rfl (Ev.fieldAddr (fld_run rfl) rfl) ?_
    refine OPS.val rfl rfl rfl (Ev.load1 (agg_run rfl) rfl (by exact H.ldL 1 rfl _ rfl)) ?_
    refine OPS.val rfl rfl rfl (Ev.mvI rfl) ?_
    refine OPS.val rfl rfl rfl ((by exact Ev.indexAddr1 (el_run rfl) (size_run rfl) rfl rfl rfl (by omega))) ?_
    refine OPS.val rfl rfl rfl (Ev.load1 (agg_run rfl) rfl (by exact H.ldS (by assumption) (by assumption))) ?_
    refine OPS.val rfl rfl rfl (Ev.gtr rfl rfl) ?_
    refine OPS.nil ?_
    refine WP.cond rfl (fun hc6 => ?_) (fun hc6 => ?_)
    · refine WP.rtail 14 mixed (by kernel_rfl) H ?_
      clear H; intro w hbw7 H
      refine OPS.val rfl rfl rfl (Ev.mvF rfl) ?_
      refine OPS.val rfl rfl rfl (Ev.fieldAddr (fld_run rfl) rfl) ?_
      refine OPS.val rfl rfl rfl (Ev.load1 (agg_run rfl) rfl (by exact H.ldL 0 rfl _ rfl)) ?_
      refine OPS.val rfl rfl rfl (Ev.fieldAddr (fld_run rfl) rfl) ?_
      refine OPS.val rfl rfl rfl (Ev.load1 (agg_run rfl) rfl (by exact H.ldL 0 rfl _ rfl)) ?_
      refine OPS.val rfl rfl rfl (Ev.mvI rfl) ?_
      refine OPS.val rfl rfl rfl (Ev.fieldAddr (fld_run rfl) rfl) ?_
      refine OPS.val rfl rfl rfl (Ev.load1 (agg_run rfl) rfl (by exact H.ldL 1 rfl _ rfl)) ?_
      refine OPS.val rfl rfl rfl (Ev.mvI rfl) ?_
      refine OPS.val rfl rfl rfl ((by exact Ev.indexAddr1 (el_run rfl) (size_run rfl) rfl rfl rfl (by omega))) ?_
      refine OPS.val rfl rfl rfl (Ev.load1 (agg_run rfl) rfl (by exact H.ldS (by assumption) (by assumption))) ?_
      refine OPS.val rfl rfl rfl (Ev.fieldAddr (fld_run rfl) rfl) ?_
      refine OPS.val rfl rfl rfl (Ev.load1 (agg_run rfl) rfl (by exact H.ldL 0 rfl _ rfl)) ?_
      refine OPS.val rfl rfl rfl (Ev.neg rfl (by unfold fits; omega)) ?_
      refine OPS.nil_s ?_
      refine OPS.call (d := some 60) rfl rfl rfl (EvC.clos rfl (fun_run (by assumption))) (hvB j hlt hlt2 s1 _ hi1 (by simpa using hc6) (H.drop ((List.sublist_cons_self _ _).trans (List.sublist_cons_self _ _))) (H.restart ((List.sublist_cons_self _ _).trans (List.sublist_cons_self _ _)))) ?_
      rintro _ w ⟨rfl, s2, hi2, Hc⟩
      refine ⟨_, rfl, ?_⟩
      replace H := SH.call (L1 := [⟨g5, 96, arcCells l[j]⟩, ⟨g2, 111, [I n, .slice (some ⟨b, o, none⟩) l.length cap, .slice (some ⟨b2, o2, none⟩) on.length cap2]⟩]) H Hc
      clear Hc
      refine OPS.nil ?_
      refine WP.region ?_
      refine OPS.val rfl rfl rfl (Ev.add rfl rfl (by unfold fits; omega)) ?_
      refine OPS.val rfl rfl rfl (Ev.mvI rfl) ?_
      refine OPS.nil ?_
      exact ⟨(by repeat (first | exact Agree.refl _ _ | exact Agree.mix _ _ _ | refine Agree.upd rfl ?_ | refine Agree.mix2 rfl ?_)), k - 1, by omega, j + 1, _, by omega, rfl, H.drop (List.sublist_cons_self _ _), hi2⟩
    have hi2 := hsB j hlt hlt2 s1 hi1 (by simpa using hc6)
    refine WP.skip ?_
    refine WP.region ?_
    refine OPS.val rfl rfl rfl (Ev.add rfl rfl (by unfold fits; omega)) ?_
    refine OPS.val rfl rfl rfl (Ev.mvI rfl) ?_
    refine OPS.nil ?_
    exact ⟨(by repeat (first | exact Agree.refl _ _ | exact Agree.mix _ _ _ | refine Agree.upd rfl ?_ | refine Agree.mix2 rfl ?_)), k - 1, by omega, j + 1, _, by omega, rfl, H.drop (List.sublist_cons_self _ _), hi2⟩
  refine WP.exit ?_
  refine XB.hit ?_
  refine ⟨_, rfl, ?_⟩
  have : j = l.length := by simp at hc2; omega
  subst this
  exact ⟨rfl, s, hi, H.drop (List.sublist_cons_self _ _)⟩
end Go.Proofs.Ytgjfjbphngamgaa.Flo
