/-
  Walk: solve.
-/
import Derived.Test.YtgjfjbphngamgaaB3
set_option linter.all false
namespace Go.Proofs.Ytgjfjbphngamgaa
open Go Go.W Go.RowKit

def bndL (s b : Int) (AU : Option Addr) (nu cu : Nat) (AV : Option Addr) (nv cv : Nat) : List Value := [I s, I b, .slice AU nu cu, .slice AV nv cv]
theorem boundNetwork2 {C D : List Int} {tm : List (List Int)} (Ac Ab At : Option Addr) (cs bs : List Need) (rs : List (SlA Int)) (kc kb kt : Nat) (cp hv wt : Int) (w0 : World) (hT : TaskAt w0 Ac Ab At cs bs rs) (hK : TaskOk cs bs rs) (hC : C = cs.map (·.move)) (hD : D = bs.map fun x => -x.move) (htm : tm = rs.map (·.l)) :
    Calls Try.prog 40 #[.agg (tskC Ac Ab At cs.length bs.length rs.length kc kb kt cp hv wt).toArray] w0 fun e w' => ∃ (A : Option Addr) (cap : Nat) (L : List Blk), e = .returned (.agg #[I (C.length + D.length + 2 : Nat), .slice A (netP C D tm).length cap]) ∧ Reads L (fun w => Flo.ArcsAt w A (netP C D tm)) ∧ SH w0 [] w' L := by
  have e1 : netOf cs bs rs = netP C D tm := by subst hC hD htm; simp [netOf, netP]
  have e2 : (cs.length : Int) + bs.length + 1 + 1 = (C.length + D.length + 2 : Nat) := by subst hC hD; simp; omega
  have h := boundNetwork Ac Ab At cs bs rs kc kb kt cp hv wt w0 hT hK
  rw [e1, e2] at h
  exact h
theorem sv2 {a b c d e f g : Blk} {Lu Lv : List Blk} : (a :: (([b, c, d, e, f, g] : List Blk) ++ (Lu ++ Lv))).Perm (([a, b, c, d, e, f, g] ++ Lu) ++ Lv) := perm_by fun f => by simp <;> omega
/-- the prices of those that collect, as potentials give them -/
def usL (pots : List Int) (k : Nat) : List Int := (List.range k).map fun i => pots.getD (1 + i) 0
theorem usL_succ (pots : List Int) (k : Nat) : usL pots (k + 1) = usL pots k ++ [pots.getD (1 + k) 0] := by simp [usL, List.range_succ]
theorem usL_len (pots : List Int) (k : Nat) : (usL pots k).length = k := by simp [usL]
theorem usL_get (pots : List Int) {k j : Nat} (h : j < k) : (usL pots k).getD j 0 = pots.getD (1 + j) 0 := by simp [usL, h]

set_option maxRecDepth 20000 in
set_option maxHeartbeats 4000000 in
theorem boundSolve {C D : List Int} {tm : List (List Int)} (Ac Ab At : Option Addr) (cs bs : List Need) (rs : List (SlA Int)) (kc kb kt : Nat) (cp : Int) (w0 : World) (hT : TaskAt w0 Ac Ab At cs bs rs) (hK : TaskOk cs bs rs) (hC : C = cs.map (·.move)) (hD : D = bs.map fun x => -x.move) (htm : tm = rs.map (·.l)) (hX : Flo.Trans C D tm) (hcp : 0 ≤ cp ∧ cp ≤ 32) :
    Calls Try.prog 21 #[.agg (tskC Ac Ab At cs.length bs.length rs.length kc kb kt cp C.sum D.sum).toArray] w0 fun e w' =>
      (emptyB cp C.sum D.sum = true → e = .returned (.tuple #[.agg zeroB.toArray, I 10]) ∧ Below w0.heap.size w0 w') ∧
      (emptyB cp C.sum D.sum = false → ¬ Flo.Hall C D tm → e = .returned (.tuple #[.agg zeroB.toArray, I 15]) ∧ Below w0.heap.size w0 w') ∧
      (emptyB cp C.sum D.sum = false → Flo.Hall C D tm → ∃ (us vs : List Int) (T : Int) (AU AV : Option Addr) (cu cv : Nat) (L : List Blk), Flo.Solved C D tm us vs T ∧ e = .returned (.tuple #[.agg (bndL (divI T cp) D.sum AU us.length cu AV vs.length cv).toArray, I 0]) ∧ Reads L (fun w => IntsAt w AU us ∧ IntsAt w AV vs) ∧ SH w0 [] w' L) := by
  have H := SH.refl w0
  have hcl := hK.cl
  have hbl := hK.bl
  have hrl := hK.rl
  have hCl : C.length = cs.length := by rw [hC]; simp
  have hDl : D.length = bs.length := by rw [hD]; simp
  have htl : tm.length = rs.length := by rw [htm]; simp
  have hds := hX.dsum
  by_cases hHall : Flo.Hall C D tm
  · have hHall2 := hHall
    refine Calls.ofWPc Try.func21 rfl Try.results21 Try.ntmps21 rfl ?_
    refine WP.seq ?_
    refine WP.region ?_
    refine OPS.box rfl rfl rfl rfl (cA rfl) H ?_
    clear H; intro g1 w H
    refine OPS.alloc rfl rfl rfl rfl (zero_run rfl) rfl H ?_
    clear H; intro g2 w H
    refine OPS.val rfl rfl rfl (Ev.asI rfl) ?_
    refine OPS.nil ?_
    refine WP.seq ?_
    refine WP.seq ?_
    refine WP.region ?_
    refine OPS.val rfl rfl rfl (Ev.fieldAddr (fld_run rfl) rfl) ?_
    refine OPS.val rfl rfl rfl (Ev.load1 (agg_run rfl) rfl (by exact H.ldL 1 rfl _ rfl)) ?_
    refine OPS.val rfl rfl rfl (Ev.eql rfl rfl) ?_
    refine OPS.val rfl rfl rfl (Ev.mvB rfl) ?_
    refine OPS.gval rfl rfl rfl rfl rfl (fun hg => Ev.fieldAddr (fld_run rfl) (by rfl)) ?_
    refine OPS.gval rfl rfl rfl rfl rfl (fun hg => Ev.load1 (agg_run rfl) (by exact gvE hg rfl) (by exact H.ldL 1 rfl _ rfl)) ?_
    refine OPS.gval rfl rfl rfl rfl rfl (fun hg => Ev.fieldAddr (fld_run rfl) (by rfl)) ?_
    refine OPS.gval rfl rfl rfl rfl rfl (fun hg => Ev.load1 (agg_run rfl) (by exact gvE hg rfl) (by exact H.ldL 1 rfl _ rfl)) ?_
    refine OPS.gval rfl rfl rfl rfl rfl (fun hg => Ev.gtr (by exact gvE hg rfl) (by exact gvE hg rfl)) ?_
    refine OPS.val rfl rfl rfl ((by exact Ev.pickOr rfl rfl rfl)) ?_
    refine OPS.nil ?_
    refine WP.cond rfl (fun hc1 => ?_) (fun hc1 => ?_)
    · refine WP.seq ?_
      refine WP.region ?_
      refine OPS.val rfl rfl rfl (Ev.build (bld_33_ (e := fun _ => .int .i64 0))) ?_
      refine OPS.store 0 _ rfl rfl rfl (size_run rfl) rfl (cA rfl) rfl rfl H rfl (by simp) ?_
      clear H; intro w H; try simp only [List.set_cons_zero, List.set_cons_succ, putL, Nat.zero_add] at H
      refine OPS.val rfl rfl rfl (Ev.asI rfl) ?_
      refine OPS.nil ?_
      refine WP.ret ⟨[_, _], ⟨(by exact resCellA 0 H rfl (agg_run rfl) (size_run rfl) (by rfl) rfl), rfl, trivial⟩, ?_⟩
      exact ⟨fun _ => ⟨rfl, H.below⟩, fun h => absurd (show emptyB cp C.sum D.sum = true from hc1) (by rw [h]; simp), fun h => absurd (show emptyB cp C.sum D.sum = true from hc1) (by rw [h]; simp)⟩
    have hem : emptyB cp C.sum D.sum = false := hc1
    have hcp1 : 1 ≤ cp := by simp [emptyB] at hem; omega
    refine WP.skip ?_
    refine WP.seq ?_
    refine WP.region ?_
    refine OPS.val rfl rfl rfl ((by exact Ev.loadO 1 H rfl (agg_run rfl) (size_run rfl) (by rfl) rfl)) ?_
    refine OPS.call (d := some 27) rfl rfl rfl (EvC.func (fun_run rfl)) (boundNetwork2 (C := C) (D := D) (tm := tm) Ac Ab At cs bs rs kc kb kt cp C.sum D.sum w (hT.below H.below) hK hC hD htm) ?_
    rintro _ w ⟨A, cap, LA, rfl, hA, Hc⟩
    refine ⟨_, rfl, ?_⟩
    replace H := SH.call (Lv := []) (by rw [List.append_nil]; exact H) Hc
    clear Hc
    refine OPS.alloc rfl rfl rfl rfl (zero_run rfl) rfl H ?_
    clear H; intro g4 w H
    refine OPS.store 0 _ rfl rfl rfl (size_run rfl) rfl (cA rfl) rfl rfl H rfl (by simp) ?_
    clear H; intro w H; try simp only [List.set_cons_zero, List.set_cons_succ, putL, Nat.zero_add] at H
    refine OPS.nil ?_
    refine WP.seq ?_
    refine WP.region ?_
    refine OPS.val rfl rfl rfl ((by exact Ev.loadO 0 H rfl (agg_run rfl) (size_run rfl) (by rfl) rfl)) ?_
    refine OPS.val rfl rfl rfl (Ev.fieldAddr (fld_run rfl) rfl) ?_
    refine OPS.val rfl rfl rfl (Ev.load1 (agg_run rfl) rfl (by exact H.ldL 0 rfl _ rfl)) ?_
    refine OPS.val rfl rfl rfl (Ev.sub rfl rfl (by unfold fits; omega)) ?_
    refine OPS.val rfl rfl rfl (Ev.fieldAddr (fld_run rfl) rfl) ?_
    refine OPS.val rfl rfl rfl (Ev.load1 (agg_run rfl) rfl (by exact H.ldL 2 rfl _ rfl)) ?_
    have hcheap := Calls.mono (netCheap hX A cap w (hA.at H (List.sublist_append_right [_, _, _] _))) fun _ _ h => h.2 hHall
    refine OPS.call (d := some 35) rfl rfl rfl (EvC.func (fun_run rfl)) (hcheap) ?_
    rintro _ w ⟨go, gp, on, pots, rfl, hN, hf, ho, hpl, hp0, hpb, Hc⟩
    refine ⟨_, rfl, ?_⟩
    replace H := SH.call (Lv := []) (by rw [List.append_nil]; exact H) Hc
    clear Hc hcheap
    refine OPS.val rfl rfl rfl (Ev.mvT rfl) ?_
    refine OPS.val rfl rfl rfl (Ev.extract rfl rfl) ?_
    refine OPS.val rfl rfl rfl (Ev.extract rfl rfl) ?_
    refine OPS.alloc rfl rfl rfl rfl (zero_run rfl) rfl H ?_
    clear H; intro g5 w H
    refine OPS.store 0 _ rfl rfl rfl (size_run rfl) rfl (cA rfl) rfl rfl H rfl (by simp) ?_
    clear H; intro w H; try simp only [List.set_cons_zero, List.set_cons_succ, putL, Nat.zero_add] at H
    refine OPS.val rfl rfl rfl (Ev.asI rfl) ?_
    refine OPS.nil ?_
    refine WP.seq ?_
    refine WP.seq ?_
    refine WP.region ?_
    refine OPS.val rfl rfl rfl (Ev.mvI rfl) ?_
    refine OPS.val rfl rfl rfl (Ev.neq rfl rfl) ?_
    refine OPS.nil ?_
    refine WP.cond rfl (fun hc5 => ?_) (fun hc5 => ?_)
    · refine WP.seq ?_
      refine WP.region ?_
      refine OPS.val rfl rfl rfl (Ev.build (bld_33_ (e := fun _ => .int .i64 0))) ?_
      refine OPS.store 2 _ rfl rfl rfl (size_run rfl) rfl (cA rfl) rfl rfl H rfl (by simp) ?_
      clear H; intro w H; try simp only [List.set_cons_zero, List.set_cons_succ, putL, Nat.zero_add] at H
      refine OPS.val rfl rfl rfl (Ev.asI rfl) ?_
      refine OPS.nil ?_
      refine WP.ret ⟨[_, _], ⟨(by exact resCellA 2 H rfl (agg_run rfl) (size_run rfl) (by rfl) rfl), rfl, trivial⟩, ?_⟩
      exact absurd hc5 (by decide)
    have hp00 : pots.getD 0 0 = 0 := hp0
    have hpg : ∀ i : Nat, 0 ≤ pots.getD i 0 ∧ pots.getD i 0 ≤ 1000000000 := fun i => by have := hpb (i : Int); simpa [Flo.potF] using this
    obtain ⟨T, hTe⟩ : ∃ T, T = Flo.costOf (netP C D tm) on := ⟨_, rfl⟩
    have hTb : 0 ≤ T ∧ T ≤ 4000000000000 := by
      have h1 := Flo.costOf_bd hN hf.v (netP C D tm).length (Nat.le_refl _)
      rw [List.take_length, List.take_of_length_le (by rw [hf.v.len]; omega)] at h1
      have := netP_len hX
      omega
    rw [← hTe] at H ⊢
    replace H : SH w0 [] w [⟨g5, 71, [I D.sum, I T, .slice (some ⟨go, 0, none⟩) on.length on.length, .slice (some ⟨gp, 0, none⟩) pots.length pots.length]⟩, ⟨g2, 33, zeroB⟩, ⟨g1, 60, tskC Ac Ab At cs.length bs.length rs.length kc kb kt cp C.sum D.sum⟩, ⟨go, 3, on.map I⟩, ⟨gp, 3, pots.map I⟩] := by
      have h := (H.reidxT (L := [_, _, _, _]) (L' := [⟨g5, 71, [I D.sum, I T, .slice (some ⟨go, 0, none⟩) on.length on.length, .slice (some ⟨gp, 0, none⟩) pots.length pots.length]⟩, ⟨g2, 33, zeroB⟩, ⟨g1, 60, tskC Ac Ab At cs.length bs.length rs.length kc kb kt cp C.sum D.sum⟩]) (Lo := LA ++ [⟨go, 3, on.map I⟩, ⟨gp, 3, pots.map I⟩]) [0, 2, 3] (by decide) rfl)
      exact h.drop (List.Sublist.append (List.Sublist.refl [_, _, _]) (List.sublist_append_right _ _))
    refine WP.skip ?_
    refine WP.seq ?_
    refine WP.rheldC [7, 41, 42, 43, 44, 45, 46, 47, 48] (fun u w' => ∃ g7 : Nat, u 7 = .pointer (some ⟨g7, 0, none⟩) ∧ SH w0 [] w' [⟨g7, 33, bndL (divI T cp) D.sum none 0 0 none 0 0⟩, ⟨g5, 71, [I D.sum, I T, .slice (some ⟨go, 0, none⟩) on.length on.length, .slice (some ⟨gp, 0, none⟩) pots.length pots.length]⟩, ⟨g2, 33, zeroB⟩, ⟨g1, 60, tskC Ac Ab At cs.length bs.length rs.length kc kb kt cp C.sum D.sum⟩, ⟨go, 3, on.map I⟩, ⟨gp, 3, pots.map I⟩]) mixed H ?_ ?_
    · clear H; intro w hbw7 H
      refine OPH.take 0 rfl rfl rfl rfl (by kernel_rfl) (by kernel_rfl) (by kernel_rfl) rfl (by exact H) (fun w H => Ev.fieldAddr (fld_run rfl) rfl) ?_
      refine OPH.take 1 rfl rfl rfl rfl (by kernel_rfl) (by kernel_rfl) (by kernel_rfl) rfl (by exact H) (fun w H => Ev.load1 (agg_run rfl) rfl (by exact H.ldL 2 rfl _ rfl)) ?_
      refine OPH.take 2 rfl rfl rfl rfl (by kernel_rfl) (by kernel_rfl) (by kernel_rfl) rfl (by exact H) (fun w H => Ev.fieldAddr (fld_run rfl) rfl) ?_
      refine OPH.take 3 rfl rfl rfl rfl (by kernel_rfl) (by kernel_rfl) (by kernel_rfl) rfl (by exact H) (fun w H => Ev.load1 (agg_run rfl) rfl (by exact H.ldL 0 rfl _ rfl)) ?_
      refine OPH.take 4 rfl rfl rfl rfl (by kernel_rfl) (by kernel_rfl) (by kernel_rfl) rfl (by exact H) (fun w H => Ev.fieldAddr (fld_run rfl) rfl) ?_
      refine OPH.take 5 rfl rfl rfl rfl (by kernel_rfl) (by kernel_rfl) (by kernel_rfl) rfl (by exact H) (fun w H => Ev.load1 (agg_run rfl) rfl (by exact H.ldL 2 rfl _ rfl)) ?_
      refine OPH.all [6, 8] (by kernel_rfl) (by simp) rfl ?_
      intro i hi; simp only [List.mem_cons, List.not_mem_nil, or_false] at hi
      rcases hi with rfl | rfl
      · refine ⟨_, rfl, ?_⟩
        refine OPS.call (d := some 47) rfl rfl rfl (EvC.func (fun_run rfl)) (boundUp T cp _ (by omega) (by omega)) ?_
        rintro _ w ⟨rfl, hb⟩
        refine ⟨_, rfl, ?_⟩
        replace H := H.toBelow hb; clear hb
        refine OPS.nil ?_
        refine ⟨(by exact H), ?_⟩
        refine OPH.take 7 rfl rfl rfl rfl (by kernel_rfl) (by kernel_rfl) (by kernel_rfl) rfl (by exact H) (fun w H => Ev.build (bld_33_1_0 rfl rfl)) ?_
        refine OPH.all [8] (by kernel_rfl) (by simp) rfl ?_
        intro i hi; simp only [List.mem_cons, List.not_mem_nil, or_false] at hi
        rcases hi with rfl
        · refine ⟨_, rfl, ?_⟩
          refine OPS.alloc rfl rfl rfl rfl (zero_run rfl) rfl H ?_
          clear H; intro g7 w H
          refine OPS.nil ?_
          refine ⟨(by exact H.drop (List.sublist_cons_self _ _)), ?_⟩
          refine OPH.all [9] (by kernel_rfl) (by simp) rfl ?_
          intro i hi; simp only [List.mem_cons, List.not_mem_nil, or_false] at hi
          rcases hi with rfl
          · refine ⟨_, rfl, ?_⟩
            refine OPS.store 0 _ rfl rfl rfl (size_run rfl) rfl (cA rfl) rfl rfl H rfl (by simp) ?_
            clear H; intro w H; try simp only [List.set_cons_zero, List.set_cons_succ, putL, Nat.zero_add] at H
            refine OPS.nil ?_
            refine ⟨(by exact H.drop (List.sublist_cons_self _ _)), ?_⟩
            refine OPH.done (by kernel_rfl) ?_
            exact ⟨(by repeat (first | exact Agree.refl _ _ | exact Agree.mix _ _ _ | refine Agree.upd rfl ?_ | refine Agree.mix2 rfl ?_)), g7, rfl, H⟩
      · refine ⟨_, rfl, ?_⟩
        refine OPS.alloc rfl rfl rfl rfl (zero_run rfl) rfl H ?_
        clear H; intro g7 w H
        refine OPS.nil ?_
        refine ⟨(by exact H.drop (List.sublist_cons_self _ _)), ?_⟩
        refine OPH.all [6] (by kernel_rfl) (by simp) rfl ?_
        intro i hi; simp only [List.mem_cons, List.not_mem_nil, or_false] at hi
        rcases hi with rfl
        · refine ⟨_, rfl, ?_⟩
          refine OPS.call (d := some 47) rfl rfl rfl (EvC.func (fun_run rfl)) (boundUp T cp _ (by omega) (by omega)) ?_
          rintro _ w ⟨rfl, hb⟩
          refine ⟨_, rfl, ?_⟩
          replace H := H.toBelow hb; clear hb
          refine OPS.nil ?_
          refine ⟨(by exact H.drop (List.sublist_cons_self _ _)), ?_⟩
          refine OPH.take 7 rfl rfl rfl rfl (by kernel_rfl) (by kernel_rfl) (by kernel_rfl) rfl (by exact H.drop (List.sublist_cons_self _ _)) (fun w H => Ev.build (bld_33_1_0 rfl rfl)) ?_
          refine OPH.all [9] (by kernel_rfl) (by simp) rfl ?_
          intro i hi; simp only [List.mem_cons, List.not_mem_nil, or_false] at hi
          rcases hi with rfl
          · refine ⟨_, rfl, ?_⟩
            refine OPS.store 0 _ rfl rfl rfl (size_run rfl) rfl (cA rfl) rfl rfl H rfl (by simp) ?_
            clear H; intro w H; try simp only [List.set_cons_zero, List.set_cons_succ, putL, Nat.zero_add] at H
            refine OPS.nil ?_
            refine ⟨(by exact H.drop (List.sublist_cons_self _ _)), ?_⟩
            refine OPH.done (by kernel_rfl) ?_
            exact ⟨(by repeat (first | exact Agree.refl _ _ | exact Agree.mix _ _ _ | refine Agree.upd rfl ?_ | refine Agree.mix2 rfl ?_)), g7, rfl, H⟩
    clear H
    rintro u w ⟨g7, h7, H⟩
    refine WP.know (t := 7) h7 ?_
    have hp : ∀ w, SH w0 [] w [⟨g5, 71, [I D.sum, I T, .slice (some ⟨go, 0, none⟩) on.length on.length, .slice (some ⟨gp, 0, none⟩) pots.length pots.length]⟩, ⟨g2, 33, zeroB⟩, ⟨g1, 60, tskC Ac Ab At cs.length bs.length rs.length kc kb kt cp C.sum D.sum⟩, ⟨go, 3, on.map I⟩, ⟨gp, 3, pots.map I⟩] → ∀ i, i < pots.length → w.cell? ⟨gp, 0 + i, none⟩ = some (I (pots.getD i 0)) := fun w H i hi => by rw [Nat.zero_add]; exact intCell H 4 rfl i hi
    refine WP.seq ?_
    refine WP.seq ?_
    refine WP.region ?_
    refine OPS.val rfl rfl rfl (Ev.fieldAddr (fld_run rfl) rfl) ?_
    refine OPS.val rfl rfl rfl (Ev.load1 (agg_run rfl) rfl (by exact H.ldL 3 rfl _ rfl)) ?_
    refine OPS.val rfl rfl rfl (Ev.len (el_run rfl) rfl) ?_
    refine OPS.val rfl rfl rfl (Ev.mvI rfl) ?_
    refine OPS.nil ?_
    refine WP.block ?_
    refine WP.loop [8, 52, 53, 54, 55, 56, 57, 58, 59, 60, 61, 62, 63, 64, 65, 66, 67, 68, 69, 70, 71, 72] (fun k e w' => ∃ (j : Nat) (AU : Option Addr) (cu : Nat) (Lu : List Blk), j + k = cs.length ∧ e 52 = I j ∧ OwnS AU cu j ((usL pots j).map I) 3 1 Lu ∧ SH w0 [] w' ([⟨g7, 33, bndL (divI T cp) D.sum AU j cu none 0 0⟩, ⟨g5, 71, [I D.sum, I T, .slice (some ⟨go, 0, none⟩) on.length on.length, .slice (some ⟨gp, 0, none⟩) pots.length pots.length]⟩, ⟨g2, 33, zeroB⟩, ⟨g1, 60, tskC Ac Ab At cs.length bs.length rs.length kc kb kt cp C.sum D.sum⟩, ⟨go, 3, on.map I⟩, ⟨gp, 3, pots.map I⟩] ++ Lu)) (cs.length) (⟨0, none, 0, [], by omega, rfl, OwnS.nil, by rw [List.append_nil]; exact H⟩) ?_
    clear H
    rintro k u w ⟨j, AU, cu, Lu, hk, h52, hOu, H⟩
    refine WP.know (t := 52) h52 ?_
    refine WP.seq ?_
    refine WP.region ?_
    refine OPS.val rfl rfl rfl (Ev.lss rfl rfl) ?_
    refine OPS.nil ?_
    refine WP.seq ?_
    refine WP.cond rfl (fun hc9 => ?_) (fun hc9 => ?_)
    · have hlt : j < cs.length := by simpa using hc9
      have hb1 := hpg (1 + j)
      refine WP.skip ?_
      refine WP.seq ?_
      refine WP.block ?_
      refine WP.seq ?_
      refine WP.region ?_
      refine OPS.val rfl rfl rfl (Ev.mvI rfl) ?_
      refine OPS.val rfl rfl rfl (Ev.asI rfl) ?_
      refine OPS.nil ?_
      have E := H
      replace H := H.drop (L' := [⟨g5, 71, [I D.sum, I T, .slice (some ⟨go, 0, none⟩) on.length on.length, .slice (some ⟨gp, 0, none⟩) pots.length pots.length]⟩, ⟨g2, 33, zeroB⟩, ⟨g1, 60, tskC Ac Ab At cs.length bs.length rs.length kc kb kt cp C.sum D.sum⟩, ⟨go, 3, on.map I⟩, ⟨gp, 3, pots.map I⟩]) ((List.sublist_cons_self _ _).trans (List.sublist_append_left _ _))
      refine WP.rheldC [55, 56, 57, 58, 59, 60, 61, 62, 63, 64, 65, 66, 67, 68, 69, 70, 71] (fun _ w' => ∃ (AU : Option Addr) (cu : Nat) (Lu : List Blk), OwnS AU cu (j + 1) ((usL pots (j + 1)).map I) 3 1 Lu ∧ SH w0 [] w' ([⟨g7, 33, bndL (divI T cp) D.sum AU (j + 1) cu none 0 0⟩, ⟨g5, 71, [I D.sum, I T, .slice (some ⟨go, 0, none⟩) on.length on.length, .slice (some ⟨gp, 0, none⟩) pots.length pots.length]⟩, ⟨g2, 33, zeroB⟩, ⟨g1, 60, tskC Ac Ab At cs.length bs.length rs.length kc kb kt cp C.sum D.sum⟩, ⟨go, 3, on.map I⟩, ⟨gp, 3, pots.map I⟩] ++ Lu)) mixed H ?_ ?_
      · clear H; intro w hbw11 H
        refine OPH.take 0 rfl rfl rfl rfl (by kernel_rfl) (by kernel_rfl) (by kernel_rfl) rfl (by exact H) (fun w H => Ev.fieldAddr (fld_run rfl) rfl) ?_
        refine OPH.take 2 rfl rfl rfl rfl (by kernel_rfl) (by kernel_rfl) (by kernel_rfl) rfl (by exact H) (fun w H => Ev.fieldAddr (fld_run rfl) rfl) ?_
        refine OPH.take 3 rfl rfl rfl rfl (by kernel_rfl) (by kernel_rfl) (by kernel_rfl) rfl (by exact H) (fun w H => Ev.load1 (agg_run rfl) rfl (by exact H.ldL 0 rfl _ rfl)) ?_
        refine OPH.take 4 rfl rfl rfl rfl (by kernel_rfl) (by kernel_rfl) (by kernel_rfl) rfl (by exact H) (fun w H => Ev.mvI rfl) ?_
        refine OPH.take 5 rfl rfl rfl rfl (by kernel_rfl) (by kernel_rfl) (by kernel_rfl) rfl (by exact H) (fun w H => Ev.add rfl rfl (by unfold fits; omega)) ?_
        refine OPH.take 6 rfl rfl rfl rfl (by kernel_rfl) (by kernel_rfl) (by kernel_rfl) rfl (by exact H) (fun w H => Ev.indexAddr1 (j := 1 + j) (el_run rfl) (size_run rfl) rfl rfl (by omega) (by omega)) ?_
        refine OPH.take 7 rfl rfl rfl rfl (by kernel_rfl) (by kernel_rfl) (by kernel_rfl) rfl (by exact H) (fun w H => Ev.load1 (agg_run rfl) rfl (hp w H (1 + j) (by omega))) ?_
        refine OPH.take 8 rfl rfl rfl rfl (by kernel_rfl) (by kernel_rfl) (by kernel_rfl) rfl (by exact H) (fun w H => Ev.fieldAddr (fld_run rfl) rfl) ?_
        refine OPH.take 9 rfl rfl rfl rfl (by kernel_rfl) (by kernel_rfl) (by kernel_rfl) rfl (by exact H) (fun w H => Ev.load1 (agg_run rfl) rfl (by exact H.ldL 0 rfl _ rfl)) ?_
        refine OPH.take 10 rfl rfl rfl rfl (by kernel_rfl) (by kernel_rfl) (by kernel_rfl) rfl (by exact H) (fun w H => Ev.indexAddr1 (j := 0) (el_run rfl) (size_run rfl) rfl rfl rfl (by omega)) ?_
        refine OPH.take 11 rfl rfl rfl rfl (by kernel_rfl) (by kernel_rfl) (by kernel_rfl) rfl (by exact H) (fun w H => Ev.load1 (agg_run rfl) rfl (hp w H 0 (by omega))) ?_
        refine OPH.take 12 rfl rfl rfl rfl (by kernel_rfl) (by kernel_rfl) (by kernel_rfl) rfl (by exact H) (fun w H => Ev.sub rfl rfl (by unfold fits; omega)) ?_
        refine OPH.take 13 rfl rfl rfl rfl (by kernel_rfl) (by kernel_rfl) (by kernel_rfl) rfl (by exact H) (fun w H => Ev.max rfl rfl) ?_
        refine OPH.all [1, 14] (by kernel_rfl) (by simp) rfl ?_
        intro i hi; simp only [List.mem_cons, List.not_mem_nil, or_false] at hi
        rcases hi with rfl | rfl
        · refine ⟨_, rfl, ?_⟩
          try replace E := E.toBelow hbw11
          refine OPS.val rfl rfl rfl (Ev.load1 (agg_run rfl) rfl (by exact E.ldL 0 rfl 2 rfl)) ?_
          refine OPS.nil ?_
          refine ⟨(by exact H), ?_⟩
          refine OPH.all [14] (by kernel_rfl) (by simp) rfl ?_
          intro i hi; simp only [List.mem_cons, List.not_mem_nil, or_false] at hi
          rcases hi with rfl
          · refine ⟨_, rfl, ?_⟩
            try replace E := E.toBelow hbw11
            refine OPS.buildSlice rfl rfl rfl rfl (bsl_31_1_0 rfl) E ?_
            clear H E; intro g69 w E
            have H := E.drop (L' := [⟨g5, 71, [I D.sum, I T, .slice (some ⟨go, 0, none⟩) on.length on.length, .slice (some ⟨gp, 0, none⟩) pots.length pots.length]⟩, ⟨g2, 33, zeroB⟩, ⟨g1, 60, tskC Ac Ab At cs.length bs.length rs.length kc kb kt cp C.sum D.sum⟩, ⟨go, 3, on.map I⟩, ⟨gp, 3, pots.map I⟩]) (List.Sublist.cons _ ((List.sublist_cons_self _ _).trans (List.sublist_append_left _ _)))
            refine OPS.nil ?_
            refine ⟨(by exact H), ?_⟩
            refine OPH.all [15] (by kernel_rfl) (by simp) rfl ?_
            intro i hi; simp only [List.mem_cons, List.not_mem_nil, or_false] at hi
            rcases hi with rfl
            · refine ⟨_, rfl, ?_⟩
              have hmax : (if 0 < pots.getD (1 + j) 0 - pots.getD 0 0 then pots.getD (1 + j) 0 - pots.getD 0 0 else 0) = pots.getD (1 + j) 0 := by rw [hp00]; split <;> omega
              rw [hmax] at E
              refine OPS.append (m := 1) (news := [I (pots.getD (1 + j) 0)]) (R := [⟨g69, 3, [I (pots.getD (1 + j) 0)]⟩, ⟨g7, 33, bndL (divI T cp) D.sum AU j cu none 0 0⟩, ⟨g5, 71, [I D.sum, I T, .slice (some ⟨go, 0, none⟩) on.length on.length, .slice (some ⟨gp, 0, none⟩) pots.length pots.length]⟩, ⟨g2, 33, zeroB⟩, ⟨g1, 60, tskC Ac Ab At cs.length bs.length rs.length kc kb kt cp C.sum D.sum⟩, ⟨go, 3, on.map I⟩, ⟨gp, 3, pots.map I⟩]) rfl rfl rfl rfl rfl (sl_run rfl) rfl rfl hOu rfl (src_own E 0 rfl) rfl (by omega) (by unfold maxLen; omega) E (List.Perm.refl _) ?_
              clear H E; intro AU2 cu2 Lu2 w hOu E
              rw [show (usL pots j).map I ++ [I (pots.getD (1 + j) 0)] = (usL pots (j + 1)).map I by rw [usL_succ, List.map_append]; rfl] at hOu
              have H := E.drop (L' := [⟨g5, 71, [I D.sum, I T, .slice (some ⟨go, 0, none⟩) on.length on.length, .slice (some ⟨gp, 0, none⟩) pots.length pots.length]⟩, ⟨g2, 33, zeroB⟩, ⟨g1, 60, tskC Ac Ab At cs.length bs.length rs.length kc kb kt cp C.sum D.sum⟩, ⟨go, 3, on.map I⟩, ⟨gp, 3, pots.map I⟩]) (List.Sublist.cons _ ((List.sublist_cons_self _ _).trans (List.sublist_append_left _ _)))
              refine OPS.nil ?_
              refine ⟨(by exact H), ?_⟩
              refine OPH.take 16 rfl rfl rfl rfl (by kernel_rfl) (by kernel_rfl) (by kernel_rfl) rfl (by exact H) (fun w H => Ev.fieldAddr (fld_run rfl) rfl) ?_
              refine OPH.all [17] (by kernel_rfl) (by simp) rfl ?_
              intro i hi; simp only [List.mem_cons, List.not_mem_nil, or_false] at hi
              rcases hi with rfl
              · refine ⟨_, rfl, ?_⟩
                unfold bndL at E
                refine OPS.store 1 _ rfl rfl rfl (size_run rfl) rfl (cS rfl) rfl rfl E rfl (by simp) ?_
                clear H E; intro w E
                simp only [List.set_cons_zero, List.set_cons_succ, List.cons_append, List.nil_append, putL] at E
                have H := E.drop (L' := [⟨g5, 71, [I D.sum, I T, .slice (some ⟨go, 0, none⟩) on.length on.length, .slice (some ⟨gp, 0, none⟩) pots.length pots.length]⟩, ⟨g2, 33, zeroB⟩, ⟨g1, 60, tskC Ac Ab At cs.length bs.length rs.length kc kb kt cp C.sum D.sum⟩, ⟨go, 3, on.map I⟩, ⟨gp, 3, pots.map I⟩]) (List.Sublist.cons _ (List.Sublist.cons _ (List.sublist_append_left [_, _, _, _, _] _)))
                refine OPS.nil ?_
                refine ⟨(by exact H), ?_⟩
                refine OPH.done (by kernel_rfl) ?_
                exact ⟨(by repeat (first | exact Agree.refl _ _ | exact Agree.mix _ _ _ | refine Agree.upd rfl ?_ | refine Agree.mix2 rfl ?_)), _, _, _, hOu, E.drop (List.sublist_cons_self _ _)⟩
        · refine ⟨_, rfl, ?_⟩
          try replace E := E.toBelow hbw11
          refine OPS.buildSlice rfl rfl rfl rfl (bsl_31_1_0 rfl) E ?_
          clear H E; intro g69 w E
          have H := E.drop (L' := [⟨g5, 71, [I D.sum, I T, .slice (some ⟨go, 0, none⟩) on.length on.length, .slice (some ⟨gp, 0, none⟩) pots.length pots.length]⟩, ⟨g2, 33, zeroB⟩, ⟨g1, 60, tskC Ac Ab At cs.length bs.length rs.length kc kb kt cp C.sum D.sum⟩, ⟨go, 3, on.map I⟩, ⟨gp, 3, pots.map I⟩]) (List.Sublist.cons _ ((List.sublist_cons_self _ _).trans (List.sublist_append_left _ _)))
          refine OPS.nil ?_
          refine ⟨(by exact H), ?_⟩
          refine OPH.all [1] (by kernel_rfl) (by simp) rfl ?_
          intro i hi; simp only [List.mem_cons, List.not_mem_nil, or_false] at hi
          rcases hi with rfl
          · refine ⟨_, rfl, ?_⟩
            try replace E := E.toBelow hbw11
            refine OPS.val rfl rfl rfl (Ev.load1 (agg_run rfl) rfl (by exact E.ldL 1 rfl 2 rfl)) ?_
            refine OPS.nil ?_
            refine ⟨(by exact H), ?_⟩
            refine OPH.all [15] (by kernel_rfl) (by simp) rfl ?_
            intro i hi; simp only [List.mem_cons, List.not_mem_nil, or_false] at hi
            rcases hi with rfl
            · refine ⟨_, rfl, ?_⟩
              have hmax : (if 0 < pots.getD (1 + j) 0 - pots.getD 0 0 then pots.getD (1 + j) 0 - pots.getD 0 0 else 0) = pots.getD (1 + j) 0 := by rw [hp00]; split <;> omega
              rw [hmax] at E
              refine OPS.append (m := 1) (news := [I (pots.getD (1 + j) 0)]) (R := [⟨g69, 3, [I (pots.getD (1 + j) 0)]⟩, ⟨g7, 33, bndL (divI T cp) D.sum AU j cu none 0 0⟩, ⟨g5, 71, [I D.sum, I T, .slice (some ⟨go, 0, none⟩) on.length on.length, .slice (some ⟨gp, 0, none⟩) pots.length pots.length]⟩, ⟨g2, 33, zeroB⟩, ⟨g1, 60, tskC Ac Ab At cs.length bs.length rs.length kc kb kt cp C.sum D.sum⟩, ⟨go, 3, on.map I⟩, ⟨gp, 3, pots.map I⟩]) rfl rfl rfl rfl rfl (sl_run rfl) rfl rfl hOu rfl (src_own E 0 rfl) rfl (by omega) (by unfold maxLen; omega) E (List.Perm.refl _) ?_
              clear H E; intro AU2 cu2 Lu2 w hOu E
              rw [show (usL pots j).map I ++ [I (pots.getD (1 + j) 0)] = (usL pots (j + 1)).map I by rw [usL_succ, List.map_append]; rfl] at hOu
              have H := E.drop (L' := [⟨g5, 71, [I D.sum, I T, .slice (some ⟨go, 0, none⟩) on.length on.length, .slice (some ⟨gp, 0, none⟩) pots.length pots.length]⟩, ⟨g2, 33, zeroB⟩, ⟨g1, 60, tskC Ac Ab At cs.length bs.length rs.length kc kb kt cp C.sum D.sum⟩, ⟨go, 3, on.map I⟩, ⟨gp, 3, pots.map I⟩]) (List.Sublist.cons _ ((List.sublist_cons_self _ _).trans (List.sublist_append_left _ _)))
              refine OPS.nil ?_
              refine ⟨(by exact H), ?_⟩
              refine OPH.take 16 rfl rfl rfl rfl (by kernel_rfl) (by kernel_rfl) (by kernel_rfl) rfl (by exact H) (fun w H => Ev.fieldAddr (fld_run rfl) rfl) ?_
              refine OPH.all [17] (by kernel_rfl) (by simp) rfl ?_
              intro i hi; simp only [List.mem_cons, List.not_mem_nil, or_false] at hi
              rcases hi with rfl
              · refine ⟨_, rfl, ?_⟩
                unfold bndL at E
                refine OPS.store 1 _ rfl rfl rfl (size_run rfl) rfl (cS rfl) rfl rfl E rfl (by simp) ?_
                clear H E; intro w E
                simp only [List.set_cons_zero, List.set_cons_succ, List.cons_append, List.nil_append, putL] at E
                have H := E.drop (L' := [⟨g5, 71, [I D.sum, I T, .slice (some ⟨go, 0, none⟩) on.length on.length, .slice (some ⟨gp, 0, none⟩) pots.length pots.length]⟩, ⟨g2, 33, zeroB⟩, ⟨g1, 60, tskC Ac Ab At cs.length bs.length rs.length kc kb kt cp C.sum D.sum⟩, ⟨go, 3, on.map I⟩, ⟨gp, 3, pots.map I⟩]) (List.Sublist.cons _ (List.Sublist.cons _ (List.sublist_append_left [_, _, _, _, _] _)))
                refine OPS.nil ?_
                refine ⟨(by exact H), ?_⟩
                refine OPH.done (by kernel_rfl) ?_
                exact ⟨(by repeat (first | exact Agree.refl _ _ | exact Agree.mix _ _ _ | refine Agree.upd rfl ?_ | refine Agree.mix2 rfl ?_)), _, _, _, hOu, E.drop (List.sublist_cons_self _ _)⟩
      clear H
      rintro u w ⟨AU, cu, Lu, hOu, H⟩
      refine WP.region ?_
      refine OPS.val rfl rfl rfl (Ev.add rfl rfl (by unfold fits; omega)) ?_
      refine OPS.val rfl rfl rfl (Ev.mvI rfl) ?_
      refine OPS.nil ?_
      exact ⟨(by repeat (first | exact Agree.refl _ _ | exact Agree.mix _ _ _ | refine Agree.upd rfl ?_ | refine Agree.mix2 rfl ?_)), k - 1, by omega, j + 1, AU, cu, Lu, by omega, rfl, hOu, H⟩
    have hj : j = cs.length := by simp at hc9; omega
    subst hj
    obtain ⟨us, hus⟩ : ∃ us, us = usL pots cs.length := ⟨_, rfl⟩
    have husl : us.length = cs.length := by rw [hus]; exact usL_len _ _
    have husg : ∀ j, j < cs.length → us.getD j 0 = pots.getD (1 + j) 0 := fun j hj => by rw [hus]; exact usL_get _ hj
    have husb : ∀ j, 0 ≤ us.getD j 0 ∧ us.getD j 0 ≤ 1000000000 := fun j => by
      by_cases hj : j < cs.length
      · rw [husg j hj]; exact hpg _
      · simp [show ¬ j < us.length by omega]
    rw [← hus] at hOu
    have hrU : ∀ w R, SH w0 [] w (R ++ Lu) → IntsAt w AU us := fun w R H => (hOu.ones H).1
    refine WP.exit ?_
    refine XB.hit ?_
    refine WP.seq ?_
    refine WP.seq ?_
    refine WP.region ?_
    refine OPS.val rfl rfl rfl (Ev.fieldAddr (fld_run rfl) rfl) ?_
    refine OPS.val rfl rfl rfl (Ev.load1 (agg_run rfl) rfl (by exact H.ldL 3 rfl _ rfl)) ?_
    refine OPS.val rfl rfl rfl (Ev.len (el_run rfl) rfl) ?_
    refine OPS.val rfl rfl rfl (Ev.mvI rfl) ?_
    refine OPS.nil ?_
    refine WP.block ?_
    refine WP.loop [9, 10, 11, 12, 13, 14, 76, 77, 78, 79, 80, 81, 82, 83, 84, 85, 86, 87, 88, 89, 90, 91, 92, 93, 94, 95, 96, 97, 98, 99, 100, 101, 102, 103, 104, 105, 106, 107, 108, 109, 110, 111, 112, 113, 114, 115, 116, 117, 118] (fun k e w' => ∃ (q : Nat) (AV : Option Addr) (cv : Nat) (Lv : List Blk) (vs : List Int), q + k = bs.length ∧ e 76 = I q ∧ vs.length = q ∧ (∀ i, i < q → ∃ found, Flo.VMin tm (fun j => us.getD j 0) i cs.length (vs.getD i 0) found) ∧ OwnS AV cv q (vs.map I) 3 1 Lv ∧ SH w0 [] w' ([⟨g7, 33, bndL (divI T cp) D.sum AU cs.length cu AV q cv⟩, ⟨g5, 71, [I D.sum, I T, .slice (some ⟨go, 0, none⟩) on.length on.length, .slice (some ⟨gp, 0, none⟩) pots.length pots.length]⟩, ⟨g2, 33, zeroB⟩, ⟨g1, 60, tskC Ac Ab At cs.length bs.length rs.length kc kb kt cp C.sum D.sum⟩, ⟨go, 3, on.map I⟩, ⟨gp, 3, pots.map I⟩] ++ (Lu ++ Lv))) (bs.length) (⟨0, none, 0, [], [], by omega, rfl, rfl, (fun i h => absurd h (by omega)), OwnS.nil, by rw [List.append_nil]; exact H⟩) ?_
    clear H
    rintro k u w ⟨q, AV, cv, Lv, vs, hk, h76, hvl, hvm, hOv, H⟩
    refine WP.know (t := 76) h76 ?_
    refine WP.seq ?_
    refine WP.region ?_
    refine OPS.val rfl rfl rfl (Ev.lss rfl rfl) ?_
    refine OPS.nil ?_
    refine WP.seq ?_
    refine WP.cond rfl (fun hc14 => ?_) (fun hc14 => ?_)
    · have hltq : q < bs.length := by simpa using hc14
      refine WP.skip ?_
      refine WP.seq ?_
      refine WP.block ?_
      refine WP.seq ?_
      refine WP.region ?_
      refine OPS.val rfl rfl rfl (Ev.mvI rfl) ?_
      refine OPS.val rfl rfl rfl (Ev.asI rfl) ?_
      refine OPS.nil ?_
      refine WP.seq ?_
      refine WP.region ?_
      refine OPS.val rfl rfl rfl (Ev.asI rfl) ?_
      refine OPS.val rfl rfl rfl (Ev.asB rfl) ?_
      refine OPS.nil ?_
      refine WP.seq ?_
      refine WP.seq ?_
      unfold bndL at H
      refine WP.region ?_
      refine OPS.val rfl rfl rfl (Ev.fieldAddr (fld_run rfl) rfl) ?_
      refine OPS.val rfl rfl rfl (Ev.load1 (agg_run rfl) rfl (by exact H.ldL 0 rfl _ rfl)) ?_
      refine OPS.val rfl rfl rfl (Ev.len (el_run rfl) rfl) ?_
      refine OPS.val rfl rfl rfl (Ev.mvI rfl) ?_
      refine OPS.nil ?_
      refine WP.block ?_
      refine WP.loop [10, 11, 12, 13, 14, 82, 83, 84, 85, 86, 87, 88, 89, 90, 91, 92, 93, 94, 95, 96, 97, 98, 99, 100, 101, 102, 103, 104, 105, 106, 107, 108, 109, 110, 111] (fun k e w' => ∃ (i : Nat) (v : Int) (found : Bool), i + k = cs.length ∧ e 82 = I i ∧ e 10 = I v ∧ e 11 = Bo found ∧ Flo.VMin tm (fun j => us.getD j 0) q i v found ∧ (0 ≤ v ∧ v ≤ 2000000000) ∧ SH w0 [] w' ([⟨g7, 33, bndL (divI T cp) D.sum AU cs.length cu AV q cv⟩, ⟨g5, 71, [I D.sum, I T, .slice (some ⟨go, 0, none⟩) on.length on.length, .slice (some ⟨gp, 0, none⟩) pots.length pots.length]⟩, ⟨g2, 33, zeroB⟩, ⟨g1, 60, tskC Ac Ab At cs.length bs.length rs.length kc kb kt cp C.sum D.sum⟩, ⟨go, 3, on.map I⟩, ⟨gp, 3, pots.map I⟩] ++ (Lu ++ Lv))) (cs.length) (⟨0, 0, false, by omega, rfl, rfl, rfl, Flo.VMin.zero, by omega, H⟩) ?_
      clear H
      rintro k2 u2 w ⟨i, v, found, hk2, h82, h10, h11, hVM, hvb, H⟩
      refine WP.know (t := 82) h82 (WP.know (t := 10) h10 (WP.know (t := 11) h11 ?_))
      refine WP.seq ?_
      refine WP.region ?_
      refine OPS.val rfl rfl rfl (Ev.lss rfl rfl) ?_
      refine OPS.nil ?_
      refine WP.seq ?_
      refine WP.cond rfl (fun hc18 => ?_) (fun hc18 => ?_)
      · have hlti : i < cs.length := by simpa using hc18
        obtain ⟨bu, ou, rfl, hxu⟩ := hrU w _ (H.drop (List.Sublist.append (List.Sublist.refl _) (List.sublist_append_left Lu Lv))) i (by omega)
        have hug : us[i]'(by omega) = us.getD i 0 := by simp [show i < us.length by omega]
        rw [hug] at hxu
        have hub := husb i
        obtain ⟨r, hre⟩ : ∃ r, r = rs[i]'(by omega) := ⟨_, rfl⟩
        have hrm : r ∈ rs := by rw [hre]; exact List.getElem_mem _
        have hrI := hT.r r hrm
        have hrb := hK.row r hrm
        obtain ⟨bt, ot, rfl, hxt⟩ := hT.t i (by omega)
        rw [← hre] at hxt
        have hxe : Flo.tmAt tm i q = some (r.l[q]'(by omega)) := by
          have e1 : (rs.map (·.l))[i]? = some r.l := by simp [show i < rs.length by omega, ← hre]
          rw [← htm] at e1
          unfold Flo.tmAt
          rw [e1]
          simp [show q < r.l.length by omega]
        clear hre hrm
        obtain ⟨rA, rc, rl⟩ := r
        simp only [slV] at hxt hrI hrb hxe
        obtain ⟨br, orr, rfl, hxr⟩ := hrI q (by omega)
        obtain ⟨x, hx⟩ : ∃ x, x = rl[q]'(by omega) := ⟨_, rfl⟩
        rw [← hx] at hxr hxe
        have hxb := hX.tb i q x hxe
        have hstep := hVM.step hxe
        unfold bndL at H
        refine WP.skip ?_
        refine WP.seq ?_
        refine WP.block ?_
        refine WP.seq ?_
        refine WP.region ?_
        refine OPS.val rfl rfl rfl (Ev.mvI rfl) ?_
        refine OPS.val rfl rfl rfl ((by exact Ev.indexAddr1 (el_run rfl) (size_run rfl) rfl rfl rfl (by omega))) ?_
        refine OPS.val rfl rfl rfl (Ev.load1 (agg_run rfl) rfl (by assumption)) ?_
        refine OPS.val rfl rfl rfl (Ev.asI rfl) ?_
        refine OPS.val rfl rfl rfl (Ev.asI rfl) ?_
        refine OPS.nil ?_
        refine WP.seq ?_
        refine WP.region ?_
        refine OPS.val rfl rfl rfl (Ev.fieldAddr (fld_run rfl) rfl) ?_
        refine OPS.val rfl rfl rfl (Ev.load1 (agg_run rfl) rfl (by exact H.ldL 3 rfl _ rfl)) ?_
        refine OPS.val rfl rfl rfl (Ev.mvI rfl) ?_
        refine OPS.val rfl rfl rfl ((by exact Ev.indexAddr1 (el_run rfl) (size_run rfl) rfl rfl rfl (by omega))) ?_
        refine OPS.val rfl rfl rfl (Ev.load1 (agg_run rfl) rfl (by exact H.ld0 (by assumption))) ?_
        refine OPS.val rfl rfl rfl (Ev.mvI rfl) ?_
        refine OPS.val rfl rfl rfl ((by exact Ev.indexAddr1 (el_run rfl) (size_run rfl) rfl rfl rfl (by omega))) ?_
        refine OPS.val rfl rfl rfl (Ev.load1 (agg_run rfl) rfl (by exact H.ld0 (by assumption))) ?_
        refine OPS.val rfl rfl rfl (Ev.asI rfl) ?_
        refine OPS.nil ?_
        refine WP.seq ?_
        refine WP.region ?_
        refine OPS.val rfl rfl rfl (Ev.mvI rfl) ?_
        refine OPS.val rfl rfl rfl (Ev.geq rfl rfl) ?_
        refine OPS.val rfl rfl rfl (Ev.mvB rfl) ?_
        refine OPS.gval rfl rfl rfl rfl rfl (fun hg => Ev.mvB (by rfl)) ?_
        refine OPS.gval rfl rfl rfl rfl rfl (fun hg => Ev.not (by exact gvE hg rfl)) ?_
        refine OPS.gval rfl rfl rfl rfl rfl (fun hg => Ev.mvB (by exact gvE hg rfl)) ?_
        refine OPS.gvalN rfl rfl (GB.g rfl) rfl rfl (fun hg => Ev.mvI (by rfl)) ?_
        refine OPS.gvalN rfl rfl (GB.g rfl) rfl rfl (fun hg => Ev.mvI (by rfl)) ?_
        refine OPS.gvalN rfl rfl (GB.g rfl) rfl rfl (fun hg => Ev.add (by exact gvE hg rfl) (by exact gvE hg rfl) (by unfold fits; omega)) ?_
        refine OPS.gvalN rfl rfl (GB.g rfl) rfl rfl (fun hg => Ev.mvI (by rfl)) ?_
        refine OPS.gvalN rfl rfl (GB.g rfl) rfl rfl (fun hg => Ev.lss (by exact gvE hg rfl) (by exact gvE hg rfl)) ?_
        refine OPS.gval rfl rfl rfl rfl rfl (fun hg => (by exact Ev.pickOr2 (beqT hg) (gvE hg rfl) rfl rfl)) ?_
        refine OPS.val rfl rfl rfl ((by exact Ev.pickAnd rfl rfl rfl)) ?_
        refine OPS.nil ?_
        refine WP.cond rfl (fun hc21 => ?_) (fun hc21 => ?_)
        · have hcd : (decide (0 ≤ x) && (!found || decide (x + us.getD i 0 < v))) = true := hc21
          have hx0 : 0 ≤ x := by simp at hcd; exact hcd.1
          rw [if_pos hcd, show (found || decide (0 ≤ x)) = true by simp [hx0]] at hstep
          have hvb2 : 0 ≤ x + us.getD i 0 ∧ x + us.getD i 0 ≤ 2000000000 := by omega
          refine WP.region ?_
          refine OPS.val rfl rfl rfl (Ev.mvI rfl) ?_
          refine OPS.val rfl rfl rfl (Ev.mvI rfl) ?_
          refine OPS.val rfl rfl rfl (Ev.add rfl rfl (by unfold fits; omega)) ?_
          refine OPS.val rfl rfl rfl (Ev.asI rfl) ?_
          refine OPS.val rfl rfl rfl (Ev.asB rfl) ?_
          refine OPS.nil ?_
          refine WP.region ?_
          refine OPS.val rfl rfl rfl (Ev.add rfl rfl (by unfold fits; omega)) ?_
          refine OPS.val rfl rfl rfl (Ev.mvI rfl) ?_
          refine OPS.nil ?_
          exact ⟨(by repeat (first | exact Agree.refl _ _ | exact Agree.mix _ _ _ | refine Agree.upd rfl ?_ | refine Agree.mix2 rfl ?_)), k2 - 1, by omega, i + 1, _, _, by omega, rfl, rfl, rfl, hstep, hvb2, H⟩
        have hcd : (decide (0 ≤ x) && (!found || decide (x + us.getD i 0 < v))) = false := hc21
        rw [if_neg (by rw [hcd]; simp), show (found || decide (0 ≤ x)) = found by
          cases found with
          | true => rfl
          | false => simp at hcd; simp; omega] at hstep
        have hvb2 := hvb
        refine WP.skip ?_
        refine WP.region ?_
        refine OPS.val rfl rfl rfl (Ev.add rfl rfl (by unfold fits; omega)) ?_
        refine OPS.val rfl rfl rfl (Ev.mvI rfl) ?_
        refine OPS.nil ?_
        exact ⟨(by repeat (first | exact Agree.refl _ _ | exact Agree.mix _ _ _ | refine Agree.upd rfl ?_ | refine Agree.mix2 rfl ?_)), k2 - 1, by omega, i + 1, _, _, by omega, rfl, rfl, rfl, hstep, hvb2, H⟩
      have hi : i = cs.length := by simp at hc18; omega
      subst hi
      refine WP.exit ?_
      refine XB.hit ?_
      refine WP.region ?_
      refine OPS.val rfl rfl rfl (Ev.fieldAddr (fld_run rfl) rfl) ?_
      refine OPS.val rfl rfl rfl (Ev.load1 (agg_run rfl) rfl (by exact H.ldL 0 rfl _ rfl)) ?_
      refine OPS.val rfl rfl rfl (Ev.mvI rfl) ?_
      refine OPS.buildSlice rfl rfl rfl rfl (bsl_31_1_0 rfl) H ?_
      clear H; intro g115 w H
      refine OPS.append (m := 1) (news := [I v]) (R := [⟨g115, 3, [I v]⟩, ⟨g7, 33, bndL (divI T cp) D.sum AU cs.length cu AV q cv⟩, ⟨g5, 71, [I D.sum, I T, .slice (some ⟨go, 0, none⟩) on.length on.length, .slice (some ⟨gp, 0, none⟩) pots.length pots.length]⟩, ⟨g2, 33, zeroB⟩, ⟨g1, 60, tskC Ac Ab At cs.length bs.length rs.length kc kb kt cp C.sum D.sum⟩, ⟨go, 3, on.map I⟩, ⟨gp, 3, pots.map I⟩] ++ Lu) rfl rfl rfl rfl rfl (sl_run rfl) rfl rfl hOv rfl (src_own H 0 rfl) rfl (by omega) (by unfold maxLen; omega) H sv2 ?_
      clear H hOv; intro AV cv Lv w hOv H
      unfold bndL at H
      simp only [List.cons_append, List.nil_append] at H
      refine OPS.val rfl rfl rfl (Ev.fieldAddr (fld_run rfl) rfl) ?_
      refine OPS.store 1 _ rfl rfl rfl (size_run rfl) rfl (cS rfl) rfl rfl H rfl (by simp) ?_
      clear H; intro w H; try simp only [List.set_cons_zero, List.set_cons_succ, putL, Nat.zero_add] at H
      refine OPS.nil ?_
      refine WP.region ?_
      refine OPS.val rfl rfl rfl (Ev.add rfl rfl (by unfold fits; omega)) ?_
      refine OPS.val rfl rfl rfl (Ev.mvI rfl) ?_
      refine OPS.nil ?_
      refine ⟨(by repeat (first | exact Agree.refl _ _ | exact Agree.mix _ _ _ | refine Agree.upd rfl ?_ | refine Agree.mix2 rfl ?_)), k - 1, by omega, q + 1, AV, cv, Lv, vs ++ [v], by omega, rfl, by simp [hvl], fun i hi => ?_, (by rw [List.map_append]; exact hOv), ?_⟩
      · by_cases hiq : i = q
        · subst hiq
          refine ⟨found, ?_⟩
          have e : (vs ++ [v]).getD i 0 = v := by rw [← hvl]; simp
          rw [e]; exact hVM
        · obtain ⟨f, hf⟩ := hvm i (by omega)
          refine ⟨f, ?_⟩
          have e : (vs ++ [v]).getD i 0 = vs.getD i 0 := by simp [List.getElem?_append_left (show i < vs.length by omega)]
          rw [e]; exact hf
      · exact H.drop (List.sublist_cons_self _ _)
    have hq : q = bs.length := by simp at hc14; omega
    subst hq
    have hsol : Flo.Solved C D tm us vs T := by
      rw [hTe]
      refine Flo.solved_of hX hN (Flo.stand_p C D) (.inl rfl) hf ho hp0 hpb (by omega) (fun j hj => ?_) (by omega) (fun k hk => ?_)
      · rw [husg j (by omega)]; unfold Flo.potF; rw [show ((1 : Int) + (j : Int)).toNat = 1 + j by omega]
      · rw [hCl]; exact hvm k (by omega)
    unfold bndL zeroB at H
    simp only [List.cons_append, List.nil_append] at H
    refine WP.exit ?_
    refine XB.hit ?_
    refine WP.seq ?_
    refine WP.region ?_
    refine OPS.val rfl rfl rfl ((by exact Ev.loadO 0 H rfl (agg_run rfl) (size_run rfl) (by rfl) rfl)) ?_
    refine OPS.store 2 _ rfl rfl rfl (size_run rfl) rfl (cA rfl) rfl rfl H rfl (by simp) ?_
    clear H; intro w H; try simp only [List.set_cons_zero, List.set_cons_succ, putL, Nat.zero_add] at H
    refine OPS.val rfl rfl rfl (Ev.asI rfl) ?_
    refine OPS.nil ?_
    refine WP.ret ⟨[_, _], ⟨(by exact resCellA 2 H rfl (agg_run rfl) (size_run rfl) (by rfl) rfl), rfl, trivial⟩, ?_⟩
    have H2 : SH w0 [] w ([_, _, _, _, _, _] ++ (Lu ++ Lv)) := H
    refine ⟨fun h => absurd hem (by rw [h]; simp), fun _ h => absurd hHall h, fun _ _ => ⟨us, vs, T, AU, AV, cu, cv, Lu ++ Lv, hsol, ?_, fun w0 S w H => ?_, H2.drop (List.sublist_append_right _ _)⟩⟩
    · rw [husl, hvl]; rfl
    · exact ⟨(hOu.ones (R := Lv) (H.perm List.perm_append_comm)).1, (hOv.ones H).1⟩
  · have hHall2 := hHall
    refine Calls.ofWPc Try.func21 rfl Try.results21 Try.ntmps21 rfl ?_
    refine WP.seq ?_
    refine WP.region ?_
    refine OPS.box rfl rfl rfl rfl (cA rfl) H ?_
    clear H; intro g1 w H
    refine OPS.alloc rfl rfl rfl rfl (zero_run rfl) rfl H ?_
    clear H; intro g2 w H
    refine OPS.val rfl rfl rfl (Ev.asI rfl) ?_
    refine OPS.nil ?_
    refine WP.seq ?_
    refine WP.seq ?_
    refine WP.region ?_
    refine OPS.val rfl rfl rfl (Ev.fieldAddr (fld_run rfl) rfl) ?_
    refine OPS.val rfl rfl rfl (Ev.load1 (agg_run rfl) rfl (by exact H.ldL 1 rfl _ rfl)) ?_
    refine OPS.val rfl rfl rfl (Ev.eql rfl rfl) ?_
    refine OPS.val rfl rfl rfl (Ev.mvB rfl) ?_
    refine OPS.gval rfl rfl rfl rfl rfl (fun hg => Ev.fieldAddr (fld_run rfl) (by rfl)) ?_
    refine OPS.gval rfl rfl rfl rfl rfl (fun hg => Ev.load1 (agg_run rfl) (by exact gvE hg rfl) (by exact H.ldL 1 rfl _ rfl)) ?_
    refine OPS.gval rfl rfl rfl rfl rfl (fun hg => Ev.fieldAddr (fld_run rfl) (by rfl)) ?_
    refine OPS.gval rfl rfl rfl rfl rfl (fun hg => Ev.load1 (agg_run rfl) (by exact gvE hg rfl) (by exact H.ldL 1 rfl _ rfl)) ?_
    refine OPS.gval rfl rfl rfl rfl rfl (fun hg => Ev.gtr (by exact gvE hg rfl) (by exact gvE hg rfl)) ?_
    refine OPS.val rfl rfl rfl ((by exact Ev.pickOr rfl rfl rfl)) ?_
    refine OPS.nil ?_
    refine WP.cond rfl (fun hc1 => ?_) (fun hc1 => ?_)
    · refine WP.seq ?_
      refine WP.region ?_
      refine OPS.val rfl rfl rfl (Ev.build (bld_33_ (e := fun _ => .int .i64 0))) ?_
      refine OPS.store 0 _ rfl rfl rfl (size_run rfl) rfl (cA rfl) rfl rfl H rfl (by simp) ?_
      clear H; intro w H; try simp only [List.set_cons_zero, List.set_cons_succ, putL, Nat.zero_add] at H
      refine OPS.val rfl rfl rfl (Ev.asI rfl) ?_
      refine OPS.nil ?_
      refine WP.ret ⟨[_, _], ⟨(by exact resCellA 0 H rfl (agg_run rfl) (size_run rfl) (by rfl) rfl), rfl, trivial⟩, ?_⟩
      exact ⟨fun _ => ⟨rfl, H.below⟩, fun h => absurd (show emptyB cp C.sum D.sum = true from hc1) (by rw [h]; simp), fun h => absurd (show emptyB cp C.sum D.sum = true from hc1) (by rw [h]; simp)⟩
    have hem : emptyB cp C.sum D.sum = false := hc1
    refine WP.skip ?_
    refine WP.seq ?_
    refine WP.region ?_
    refine OPS.val rfl rfl rfl ((by exact Ev.loadO 1 H rfl (agg_run rfl) (size_run rfl) (by rfl) rfl)) ?_
    refine OPS.call (d := some 27) rfl rfl rfl (EvC.func (fun_run rfl)) (boundNetwork2 (C := C) (D := D) (tm := tm) Ac Ab At cs bs rs kc kb kt cp C.sum D.sum w (hT.below H.below) hK hC hD htm) ?_
    rintro _ w ⟨A, cap, LA, rfl, hA, Hc⟩
    refine ⟨_, rfl, ?_⟩
    replace H := SH.call (Lv := []) (by rw [List.append_nil]; exact H) Hc
    clear Hc
    refine OPS.alloc rfl rfl rfl rfl (zero_run rfl) rfl H ?_
    clear H; intro g4 w H
    refine OPS.store 0 _ rfl rfl rfl (size_run rfl) rfl (cA rfl) rfl rfl H rfl (by simp) ?_
    clear H; intro w H; try simp only [List.set_cons_zero, List.set_cons_succ, putL, Nat.zero_add] at H
    refine OPS.nil ?_
    refine WP.seq ?_
    refine WP.region ?_
    refine OPS.val rfl rfl rfl ((by exact Ev.loadO 0 H rfl (agg_run rfl) (size_run rfl) (by rfl) rfl)) ?_
    refine OPS.val rfl rfl rfl (Ev.fieldAddr (fld_run rfl) rfl) ?_
    refine OPS.val rfl rfl rfl (Ev.load1 (agg_run rfl) rfl (by exact H.ldL 0 rfl _ rfl)) ?_
    refine OPS.val rfl rfl rfl (Ev.sub rfl rfl (by unfold fits; omega)) ?_
    refine OPS.val rfl rfl rfl (Ev.fieldAddr (fld_run rfl) rfl) ?_
    refine OPS.val rfl rfl rfl (Ev.load1 (agg_run rfl) rfl (by exact H.ldL 2 rfl _ rfl)) ?_
    have hcheap := Calls.mono (netCheap hX A cap w (hA.at H (List.sublist_append_right [_, _, _] _))) fun _ _ h => h.1 hHall
    refine OPS.call (d := some 35) rfl rfl rfl (EvC.func (fun_run rfl)) (hcheap) ?_
    rintro _ w ⟨rfl, hb⟩
    refine ⟨_, rfl, ?_⟩
    replace H := H.toBelow hb; clear hb
    refine OPS.val rfl rfl rfl (Ev.mvT rfl) ?_
    refine OPS.val rfl rfl rfl (Ev.extract rfl rfl) ?_
    refine OPS.val rfl rfl rfl (Ev.extract rfl rfl) ?_
    refine OPS.alloc rfl rfl rfl rfl (zero_run rfl) rfl H ?_
    clear H; intro g5 w H
    refine OPS.store 0 _ rfl rfl rfl (size_run rfl) rfl (cA rfl) rfl rfl H rfl (by simp) ?_
    clear H; intro w H; try simp only [List.set_cons_zero, List.set_cons_succ, putL, Nat.zero_add] at H
    refine OPS.val rfl rfl rfl (Ev.asI rfl) ?_
    refine OPS.nil ?_
    refine WP.seq ?_
    refine WP.seq ?_
    refine WP.region ?_
    refine OPS.val rfl rfl rfl (Ev.mvI rfl) ?_
    refine OPS.val rfl rfl rfl (Ev.neq rfl rfl) ?_
    refine OPS.nil ?_
    refine WP.cond rfl (fun hc5 => ?_) (fun hc5 => ?_)
    · refine WP.seq ?_
      refine WP.region ?_
      refine OPS.val rfl rfl rfl (Ev.build (bld_33_ (e := fun _ => .int .i64 0))) ?_
      refine OPS.store 2 _ rfl rfl rfl (size_run rfl) rfl (cA rfl) rfl rfl H rfl (by simp) ?_
      clear H; intro w H; try simp only [List.set_cons_zero, List.set_cons_succ, putL, Nat.zero_add] at H
      refine OPS.val rfl rfl rfl (Ev.asI rfl) ?_
      refine OPS.nil ?_
      refine WP.ret ⟨[_, _], ⟨(by exact resCellA 2 H rfl (agg_run rfl) (size_run rfl) (by rfl) rfl), rfl, trivial⟩, ?_⟩
      exact ⟨fun h => absurd hem (by rw [h]; simp), fun _ _ => ⟨rfl, H.below⟩, fun _ h => absurd h hHall⟩
    refine WP.skip ?_
    refine WP.seq ?_
    exact absurd hc5 (by decide)
end Go.Proofs.Ytgjfjbphngamgaa
