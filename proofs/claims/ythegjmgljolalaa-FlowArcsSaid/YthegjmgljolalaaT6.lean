/-
  Walk: reach.
-/
import Derived.Test.YthegjmgljolalaaT5
set_option linter.all false
namespace Go.Proofs.Ythegjmgljolalaa
open Go Go.W Go.RowKit

def reachStep (l : List Arc) (on : List Int) (d : Int) (sts : List Step) : RSt := eachM (visR d) l on l.length (sts, false)
def reachIter (l : List Arc) (on : List Int) : Nat → Int → List Step → List Step
  | 0, _, sts => sts
  | f + 1, d, sts => if (reachStep l on d sts).2 = true then reachIter l on f (d + 1) (reachStep l on d sts).1 else (reachStep l on d sts).1
def reachInit (n f : Nat) : List Step := (List.replicate n default).set f ⟨f, -1, 0, false, true, 0⟩
def reachFin (l : List Arc) (on : List Int) (n f : Nat) : List Step := reachIter l on (n + 1) 0 (reachInit n f)
def unk (sts : List Step) : Nat := sts.countP fun s => !s.known

theorem visR_length (d : Int) (s : RSt) (a b : Int) (arc : Nat) (room cost : Int) (fwd : Bool) : (visR d s a b arc room cost fwd).1.length = s.1.length := by
  unfold visR; split <;> simp
def RInv (sts0 : List Step) (s : RSt) : Prop := s.1.length = sts0.length ∧ (s.2 = false → s.1 = sts0) ∧ (s.2 = true → unk s.1 < unk sts0)
theorem unk_set {sts : List Step} {b : Nat} {x : Step} (hb : b < sts.length) (h : sts[b].known = false) (hx : x.known = true) : unk (sts.set b x) < unk sts := by
  unfold unk
  have h1 : (sts.countP fun s => !s.known) = ((sts.take b).countP fun s => !s.known) + ((sts.drop b).countP fun s => !s.known) := by
    rw [← List.countP_append, List.take_append_drop]
  have h2 : ((sts.set b x).countP fun s => !s.known) = ((sts.take b).countP fun s => !s.known) + ((sts.drop (b+1)).countP fun s => !s.known) := by
    rw [List.set_eq_take_append_cons_drop, if_pos hb, List.countP_append, List.countP_cons]; simp [hx]
  rw [h1, h2, List.drop_eq_getElem_cons hb, List.countP_cons]
  simp [h]
theorem visR_inv {sts0 : List Step} (d : Int) (s : RSt) (a b : Int) (arc : Nat) (room cost : Int) (fwd : Bool) (h : RInv sts0 s) : RInv sts0 (visR d s a b arc room cost fwd) := by
  refine ⟨by rw [visR_length]; exact h.1, ?_, ?_⟩
  · unfold visR; split
    · intro hc; cases hc
    · exact h.2.1
  · unfold visR; split
    · rename_i hc
      intro _
      simp only
      unfold visC at hc
      simp only [Bool.and_eq_true, Bool.not_eq_true', decide_eq_true_eq] at hc
      have hb : b.toNat < s.1.length := hc.2
      have hk : s.1[b.toNat].known = false := by have := hc.1.2; simpa [hb] using this
      have h1 := unk_set hb hk (x := ⟨a, arc, room, fwd, true, d + 1⟩) rfl
      cases hs : s.2 with
      | false => rw [h.2.1 hs] at h1; rw [h.2.1 hs]; exact h1
      | true => have := h.2.2 hs; omega
    · exact h.2.2
theorem eachM_inv {σ : Type} {vis : VisF σ} {l : List Arc} {on : List Int} {Inv : σ → Prop} (h : ∀ s a b arc room cost fwd, Inv s → Inv (vis s a b arc room cost fwd)) {s : σ} (hs : Inv s) : ∀ k, Inv (eachM vis l on k s)
  | 0 => hs
  | k + 1 => by
    have ih := eachM_inv (l := l) (on := on) h hs k
    rw [eachM]
    have h1 : Inv (eachF vis k (l.getD k default) (on.getD k 0) (eachM vis l on k s)) := by unfold eachF; split; exact h _ _ _ _ _ _ _ ih; exact ih
    unfold eachB; split
    · exact h _ _ _ _ _ _ _ h1
    · exact h1
theorem reachStep_inv (l : List Arc) (on : List Int) (d : Int) (sts : List Step) : RInv sts (reachStep l on d sts) :=
  eachM_inv (fun s a b arc room cost fwd h => visR_inv d s a b arc room cost fwd h) ⟨rfl, fun _ => rfl, fun h => by cases h⟩ _

set_option maxHeartbeats 400000 in
theorem flowReach (n f : Nat) (A B : Option Addr) (l : List Arc) (on : List Int) (cap cap2 : Nat) (w0 : World) (hf : f < n) (hn : n ≤ 64)
    (hz : ArcsAt w0 A l) (ho : IntsAt w0 B on) (hlen : on.length = l.length) (hl : l.length ≤ 4096)
    (hcap : ∀ i (h : i < l.length), -1000000 ≤ l[i].cap ∧ l[i].cap ≤ 1000000 ∧ -1000000 ≤ l[i].cost ∧ l[i].cost ≤ 1000000) (hon : ∀ i (h : i < on.length), -1000000000 ≤ on[i] ∧ on[i] ≤ 1000000000)
    (hnode : ∀ i (h : i < l.length), (0 ≤ l[i].f ∧ l[i].f < n) ∧ (0 ≤ l[i].t ∧ l[i].t < n)) :
    Calls Try.prog 33 #[.agg #[I n, .slice A l.length cap, .slice B on.length cap2], I f] w0
      fun e w' => ∃ ga, e = .returned (.slice (some ⟨ga, 0, none⟩) n n) ∧ SH w0 [] w' [⟨ga, 60, (reachFin l on n f).flatMap stepCells⟩] := by
  have H := SH.refl w0
  refine Calls.ofWP Try.func33 rfl Try.results33 Try.ntmps33 rfl ?_
  refine WP.seq ?_
  refine WP.region ?_
  refine OPS.box rfl rfl rfl rfl (cA rfl) H ?_
  clear H; intro g2 w H
  refine OPS.val rfl rfl rfl (Ev.asS rfl) ?_
  refine OPS.nil ?_
  refine WP.seq ?_
  refine WP.region ?_
  refine OPS.val rfl rfl rfl (Ev.fieldAddr (fld_run rfl) rfl) ?_
  refine OPS.val rfl rfl rfl (Ev.fieldAddr (fld_run rfl) rfl) ?_
  refine OPS.val rfl rfl rfl (Ev.load1 (agg_run rfl) rfl (by exact H.ldL 0 rfl _ rfl)) ?_
  refine OPS.makeSlice rfl rfl rfl rfl (sl_run rfl) rfl rfl rfl (by omega) (by omega) H ?_
  clear H; intro g11 w H
  refine OPS.alloc rfl rfl rfl rfl (zero_run rfl) rfl H ?_
  clear H; intro g5 w H
  refine OPS.store 0 _ rfl rfl rfl (size_run rfl) rfl (cS rfl) rfl rfl H rfl (by simp) ?_
  clear H; intro w H; try simp only [List.set_cons_zero, List.set_cons_succ, putL, Nat.zero_add] at H
  refine OPS.nil ?_
  refine WP.seq ?_
  refine WP.region ?_
  refine OPS.val rfl rfl rfl (Ev.load1 (agg_run rfl) rfl (by exact H.ldL 0 rfl _ rfl)) ?_
  refine OPS.val rfl rfl rfl (Ev.mvI rfl) ?_
  refine OPS.val rfl rfl rfl (Ev.mvI rfl) ?_
  refine OPS.val rfl rfl rfl (Ev.build (bld_60_0_1_4 rfl rfl rfl)) ?_
  refine OPS.val rfl rfl rfl ((by exact Ev.indexAddr (el_run rfl) (size_run rfl) rfl rfl rfl (by omega))) ?_
  refine OPS.store 1 _ rfl rfl rfl (size_run rfl) rfl (cA rfl) rfl rfl H rfl (by simp only [mkL_length, List.length_cons, List.length_nil]; omega) ?_
  clear H; intro w H
  have hp := putL_rows stepCells_len (List.replicate n default) f ⟨f, -1, 0, false, true, 0⟩ (by simpa using hf)
  rw [← mkL_rows] at hp
  rw [Nat.zero_add] at H
  replace H : SH w0 [] w [⟨g5, 57, [.slice (some ⟨g11, 0, none⟩) n n]⟩, ⟨g11, 60, putL (mkL n (stepCells default)) (f * 6) (stepCells ⟨f, -1, 0, false, true, 0⟩)⟩, ⟨g2, 52, [I n, .slice A l.length cap, .slice B on.length cap2]⟩] := H
  rw [hp] at H
  refine OPS.nil ?_
  refine WP.seq ?_
  refine WP.seq ?_
  refine WP.region ?_
  refine OPS.alloc rfl rfl rfl rfl (zero_run rfl) rfl H ?_
  clear H; intro g6 w H
  refine OPS.alloc rfl rfl rfl rfl (zero_run rfl) rfl H ?_
  clear H; intro g7 w H
  refine OPS.store 1 _ rfl rfl rfl (size_run rfl) rfl (cI rfl) rfl rfl H rfl (by simp) ?_
  clear H; intro w H; try simp only [List.set_cons_zero, List.set_cons_succ, putL, Nat.zero_add] at H
  refine OPS.store 0 _ rfl rfl rfl (size_run rfl) rfl (cB rfl) rfl rfl H rfl (by simp) ?_
  clear H; intro w H; try simp only [List.set_cons_zero, List.set_cons_succ, putL, Nat.zero_add] at H
  refine OPS.nil ?_
  refine WP.block ?_
  refine WP.loop [6, 7, 17, 18, 19, 20, 21, 22, 23, 24] (fun k e w' => ∃ (gg gd : Nat) (d : Nat) (g : Bool) (sts : List Step), e 6 = .pointer (some ⟨gd, 0, none⟩) ∧ e 7 = .pointer (some ⟨gg, 0, none⟩) ∧ SH w0 [] w' [⟨g2, 52, [I n, .slice A l.length cap, .slice B on.length cap2]⟩, ⟨g5, 57, [.slice (some ⟨g11, 0, none⟩) n n]⟩, ⟨gd, 3, [I d]⟩, ⟨gg, 4, [Bo g]⟩, ⟨g11, 60, sts.flatMap stepCells⟩] ∧ sts.length = n ∧ d + k ≤ n + 1 ∧ (g = true → unk sts < k ∧ reachFin l on n f = reachIter l on k d sts) ∧ (g = false → reachFin l on n f = sts)) (n + 1) (⟨g7, g6, 0, true, reachInit n f, rfl, rfl, H.reidx [4, 2, 1, 0, 3] (by decide) rfl, by simp [reachInit], by omega, fun _ => ⟨by have h1 : unk (reachInit n f) ≤ (reachInit n f).length := List.countP_le_length; simp [reachInit] at h1 ⊢; omega, rfl⟩, fun h => by cases h⟩) ?_
  clear H
  rintro k u w ⟨gg, gd, d, g, sts, h6, h7, H, hst, hd, hg1, hg2⟩
  refine WP.know (t := 6) h6 (WP.know (t := 7) h7 ?_)
  refine WP.seq ?_
  refine WP.seq ?_
  refine WP.region ?_
  refine OPS.val rfl rfl rfl (Ev.load1 (agg_run rfl) rfl (by exact H.ldL 3 rfl _ rfl)) ?_
  refine OPS.nil ?_
  refine WP.cond rfl (fun hc4 => ?_) (fun hc4 => ?_)
  · subst hc4
    obtain ⟨hk, hfin⟩ := hg1 rfl
    clear hg1 hg2
    refine WP.skip ?_
    refine WP.seq ?_
    refine WP.block ?_
    refine WP.seq ?_
    refine WP.region ?_
    refine OPS.store 3 _ rfl rfl rfl (size_run rfl) rfl (cB rfl) rfl rfl H rfl (by simp) ?_
    clear H; intro w H; try simp only [List.set_cons_zero, List.set_cons_succ, putL, Nat.zero_add] at H
    refine OPS.nil ?_
    refine WP.region ?_
    refine OPS.val rfl rfl rfl ((by exact Ev.loadO 0 H rfl (agg_run rfl) (size_run rfl) (by rfl) rfl)) ?_
    refine OPS.val rfl rfl rfl (Ev.makeFunc) ?_
    have hfr : ∀ g ∈ [g5, gd, gg, g11], w0.heap.size ≤ g := fun g hg => H.fresh g (List.mem_cons_of_mem _ hg)
    have hA : l ≠ [] → Off A [g5, gd, gg, g11] := hz.off (fun _ => by simp [arcCells]) hfr
    have hB : on ≠ [] → Off B [g5, gd, gg, g11] := ho.off hfr
    have hvF : ∀ i (h : i < l.length) (h2 : i < on.length) (s : RSt) w, s.1.length = n → on[i] < l[i].cap → SH w [g5, gd, gg, g11] w (reachLv g5 gd gg g11 n d s) → Calls Try.prog 41 ([I l[i].f, I l[i].t, I i, I (l[i].cap - on[i]), I l[i].cost, .bool true] ++ [Value.pointer (some ⟨g5, 0, none⟩), Value.pointer (some ⟨gd, 0, none⟩), Value.pointer (some ⟨gg, 0, none⟩)]).toArray w fun e w' => e = .returned (.tuple #[]) ∧ SH w [g5, gd, gg, g11] w' (reachLv g5 gd gg g11 n d (visR d s l[i].f l[i].t i (l[i].cap - on[i]) l[i].cost true)) := by
      intro i h h2 s w hs _ Hw
      obtain ⟨⟨p1, p2⟩, p3, p4⟩ := hnode i h
      obtain ⟨ai, hai⟩ := Int.eq_ofNat_of_zero_le p1
      obtain ⟨bi, hbi⟩ := Int.eq_ofNat_of_zero_le p3
      rw [hai, hbi]
      exact reachVisit g5 gd gg g11 n ai bi d _ _ i true s w hs (by omega) (by omega) (by omega) (by omega) Hw
    have hvB : ∀ i (h : i < l.length) (h2 : i < on.length) (s : RSt) w, s.1.length = n → 0 < on[i] → SH w [g5, gd, gg, g11] w (reachLv g5 gd gg g11 n d s) → Calls Try.prog 41 ([I l[i].t, I l[i].f, I i, I on[i], I (-l[i].cost), .bool false] ++ [Value.pointer (some ⟨g5, 0, none⟩), Value.pointer (some ⟨gd, 0, none⟩), Value.pointer (some ⟨gg, 0, none⟩)]).toArray w fun e w' => e = .returned (.tuple #[]) ∧ SH w [g5, gd, gg, g11] w' (reachLv g5 gd gg g11 n d (visR d s l[i].t l[i].f i on[i] (-l[i].cost) false)) := by
      intro i h h2 s w hs _ Hw
      obtain ⟨⟨p1, p2⟩, p3, p4⟩ := hnode i h
      obtain ⟨ai, hai⟩ := Int.eq_ofNat_of_zero_le p1
      obtain ⟨bi, hbi⟩ := Int.eq_ofNat_of_zero_le p3
      rw [hai, hbi]
      exact reachVisit g5 gd gg g11 n bi ai d _ _ i false s w hs (by omega) (by omega) (by omega) (by omega) Hw
    refine OPS.call (d := some 22) rfl rfl rfl (EvC.func (fun_run rfl)) (flowEach (visR d) (reachLv g5 gd gg g11 n d) [g5, gd, gg, g11] (fun _ => rfl) (fun s => s.1.length = n) 41 [.pointer (some ⟨g5, 0, none⟩), .pointer (some ⟨gd, 0, none⟩), .pointer (some ⟨gg, 0, none⟩)] n A B l on cap cap2 (sts, false) _ rfl (hz.sh H) hA (ho.sh H) hB hlen hl hcap hon hvF (fun i _ _ s hs _ => by rw [visR_length]; exact hs) hvB (fun i _ _ s hs _ => by rw [visR_length]; exact hs) hst (H.restart (List.sublist_cons_self _ _))) ?_
    rintro _ w ⟨rfl, Hc⟩
    refine ⟨_, rfl, ?_⟩
    replace H := SH.call (L1 := [⟨g2, 52, [I n, .slice A l.length cap, .slice B on.length cap2]⟩]) (Lv := reachLv g5 gd gg g11 n d (sts, false)) H Hc
    clear Hc
    have hinv := reachStep_inv l on d sts
    have hstep : eachM (visR d) l on l.length (sts, false) = reachStep l on d sts := rfl
    rw [hstep] at H
    generalize hr : reachStep l on d sts = r at H hinv
    unfold reachLv at H
    refine OPS.nil ?_
    refine WP.seq ?_
    refine WP.seq ?_
    refine WP.region ?_
    refine OPS.val rfl rfl rfl (Ev.load1 (agg_run rfl) rfl (by exact H.ldL 2 rfl _ rfl)) ?_
    refine OPS.val rfl rfl rfl (Ev.load1 (agg_run rfl) rfl (by exact H.ldL 3 rfl _ rfl)) ?_
    refine OPS.nil ?_
    refine WP.region ?_
    refine OPS.alloc rfl rfl rfl rfl (zero_run rfl) rfl H ?_
    clear H; intro g6 w H
    refine OPS.store 0 _ rfl rfl rfl (size_run rfl) rfl (cI rfl) rfl rfl H rfl (by simp) ?_
    clear H; intro w H; try simp only [List.set_cons_zero, List.set_cons_succ, putL, Nat.zero_add] at H
    refine OPS.alloc rfl rfl rfl rfl (zero_run rfl) rfl H ?_
    clear H; intro g7 w H
    refine OPS.store 0 _ rfl rfl rfl (size_run rfl) rfl (cB rfl) rfl rfl H rfl (by simp) ?_
    clear H; intro w H; try simp only [List.set_cons_zero, List.set_cons_succ, putL, Nat.zero_add] at H
    refine OPS.nil ?_
    replace H := H.reidx (L' := [⟨g2, 52, [I n, .slice A l.length cap, .slice B on.length cap2]⟩, ⟨g5, 57, [.slice (some ⟨g11, 0, none⟩) n n]⟩, ⟨g6, 3, [I d]⟩, ⟨g7, 4, [Bo r.2]⟩, ⟨g11, 60, r.1.flatMap stepCells⟩]) [2, 3, 1, 0, 6] (by decide) rfl
    refine WP.region ?_
    refine OPS.val rfl rfl rfl (Ev.load1 (agg_run rfl) rfl (by exact H.ldL 2 rfl _ rfl)) ?_
    refine OPS.val rfl rfl rfl (Ev.add rfl rfl (by unfold fits; omega)) ?_
    refine OPS.store 2 _ rfl rfl rfl (size_run rfl) rfl (cI rfl) rfl rfl H rfl (by simp) ?_
    clear H; intro w H; try simp only [List.set_cons_zero, List.set_cons_succ, putL, Nat.zero_add] at H
    refine OPS.nil ?_
    have hk1 : ∃ k', k = k' + 1 := ⟨k - 1, by omega⟩
    obtain ⟨k', rfl⟩ := hk1
    refine ⟨(by repeat (first | exact Agree.refl _ _ | exact Agree.mix _ _ _ | refine Agree.upd rfl ?_ | refine Agree.mix2 rfl ?_)), k', by omega, g7, g6, d + 1, r.2, r.1, rfl, rfl, H, by rw [hinv.1, hst], by omega, fun hr2 => ⟨by have := hinv.2.2 hr2; omega, ?_⟩, fun hr2 => ?_⟩
    · rw [hfin, reachIter, hr, if_pos hr2]; rfl
    · rw [hfin, reachIter, hr, if_neg (by simp [hr2])]
  refine WP.exit ?_
  refine XB.hit ?_
  refine WP.seq ?_
  refine WP.region ?_
  refine OPS.val rfl rfl rfl (Ev.load1 (agg_run rfl) rfl (by exact H.ldL 1 rfl _ rfl)) ?_
  refine OPS.val rfl rfl rfl (Ev.asS rfl) ?_
  refine OPS.nil ?_
  refine WP.ret ⟨_, rfl, ?_⟩
  subst hc4
  rw [hg2 rfl]
  exact ⟨g11, rfl, H.reidx [4] (by decide) rfl⟩
end Go.Proofs.Ythegjmgljolalaa
