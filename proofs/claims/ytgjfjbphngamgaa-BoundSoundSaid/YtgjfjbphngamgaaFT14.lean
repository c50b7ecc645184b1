/-
  Walk: Cheapest.
-/
import Derived.Test.YtgjfjbphngamgaaFT12
import Derived.Test.YtgjfjbphngamgaaFT13
import Derived.Test.YtgjfjbphngamgaaFM6
set_option linter.all false
namespace Go.Proofs.Ytgjfjbphngamgaa.Flo
open Go Go.W Go.RowKit

/-- a flow, as Cheapest returns it: a flow of the amount, potentials that prove its cost; those of the start are 0, none is less -/
structure CheapOk (m s t : Nat) (l : List Arc) (amt : Int) (on pots : List Int) : Prop where
  flow : IsFlow m l s t on amt
  opt : OptPot (potF pots) l on
  plen : pots.length = m
  zero : pots.getD s 0 = 0
  bd : ∀ v, v < m → 0 ≤ pots.getD v 0 ∧ pots.getD v 0 ≤ 65536 * m * m
/-- the error of Cheapest, where the greatest amount is 'most' -/
def cheapErr (n f t amt : Int) (l : List Arc) (most : Int) : Int := if endsErr n l f t ≠ 0 then endsErr n l f t else if (decide (amt < 0) || decide (65536 < amt)) = true then 1 else if most < amt then 15 else 0

theorem zero_opt {l : List Arc} {m : Nat} (hc : ∀ a ∈ l, 0 ≤ a.cost) : OptPot (potF (List.replicate m 0)) l (List.replicate l.length 0) := fun i h h2 => by
  have hz : ∀ u : Int, potF (List.replicate m 0) u = 0 := fun u => by
    by_cases h : u.toNat < m <;> simp [potF, h]
  have e : (List.replicate l.length (0 : Int))[i] = 0 := by simp
  have := hc _ (List.getElem_mem h)
  refine ⟨fun _ => ?_, fun hp => ?_⟩
  · unfold rc; rw [hz, hz]; omega
  · rw [e] at hp; omega
theorem pinv_small {n s : Nat} {pots : List Int} (h : PInv n s pots) (hn : n ≤ 64) : ∀ v, v < n → 0 ≤ pots.getD v 0 ∧ pots.getD v 0 ≤ 1000000000000 := fun v hv => by
  have h1 := h.le hv
  have h2 : 65536 * (n : Int) * n ≤ 65536 * 64 * 64 := Int.mul_le_mul (by omega) (by omega) (by omega) (by omega)
  have := (h.bd v hv).1
  omega

set_option maxHeartbeats 2000000 in
theorem flowCheapest (n f t amt : Int) (A : Option Addr) (l : List Arc) (cap : Nat) (w0 : World) (hz : ArcsAt w0 A l) :
    Calls Try.prog 41 #[.agg #[I n, .slice A l.length cap], I f, I t, I amt] w0 fun e w' => ∃ (most : Int), MostRet n f t l most (endsErr n l f t) ∧
      ((cheapErr n f t amt l most ≠ 0 ∧ e = .returned (.tuple #[.agg #[I 0, I 0, .slice none 0 0, .slice none 0 0], I (cheapErr n f t amt l most)]) ∧ Below w0.heap.size w0 w') ∨
       (cheapErr n f t amt l most = 0 ∧ ∃ (m s d : Nat) (go gp : Nat) (on pots : List Int), EndsOk n f t l m s d ∧ CheapOk m s d l amt on pots ∧ e = .returned (.tuple #[.agg #[I amt, I (costOf l on), .slice (some ⟨go, 0, none⟩) on.length on.length, .slice (some ⟨gp, 0, none⟩) pots.length pots.length], I 0]) ∧ SH w0 [] w' [⟨go, 3, on.map I⟩, ⟨gp, 3, pots.map I⟩])) := by
  have H := SH.refl w0
  refine Calls.ofWPc Try.func41 rfl Try.results41 Try.ntmps41 rfl ?_
  refine WP.seq ?_
  refine WP.region ?_
  refine OPS.box rfl rfl rfl rfl (cA rfl) H ?_
  clear H; intro g4 w H
  refine OPS.alloc rfl rfl rfl rfl (zero_run rfl) rfl H ?_
  clear H; intro g8 w H
  refine OPS.val rfl rfl rfl (Ev.asI rfl) ?_
  refine OPS.nil ?_
  refine WP.seq ?_
  refine WP.region ?_
  refine OPS.val rfl rfl rfl ((by exact Ev.loadO 1 H rfl (agg_run rfl) (size_run rfl) (by rfl) rfl)) ?_
  refine OPS.val rfl rfl rfl (Ev.mvI rfl) ?_
  refine OPS.val rfl rfl rfl (Ev.mvI rfl) ?_
  refine OPS.call (d := some 26) rfl rfl rfl (EvC.func (fun_run rfl)) (flowMost n f t A l cap w (hz.sh H)) ?_
  rintro _ w ⟨most, er, rfl, hM, hb⟩
  refine ⟨_, rfl, ?_⟩
  replace H := H.toBelow hb; clear hb
  obtain ⟨rfl, hM1, hM2⟩ := hM
  refine OPS.val rfl rfl rfl (Ev.mvT rfl) ?_
  refine OPS.val rfl rfl rfl (Ev.extract rfl rfl) ?_
  refine OPS.val rfl rfl rfl (Ev.extract rfl rfl) ?_
  refine OPS.val rfl rfl rfl (Ev.asI rfl) ?_
  refine OPS.val rfl rfl rfl (Ev.asI rfl) ?_
  refine OPS.nil ?_
  refine WP.seq ?_
  refine WP.block ?_
  refine WP.seq ?_
  refine WP.region ?_
  refine OPS.val rfl rfl rfl (Ev.mvI rfl) ?_
  refine OPS.val rfl rfl rfl (Ev.neq rfl rfl) ?_
  refine OPS.val rfl rfl rfl (Ev.asB rfl) ?_
  refine OPS.nil ?_
  refine WP.cond rfl (fun hc2 => ?_) (fun hc2 => ?_)
  · refine WP.seq ?_
    refine WP.region ?_
    refine OPS.val rfl rfl rfl (Ev.build (bld_71_ (e := fun _ => .int .i64 0))) ?_
    refine OPS.val rfl rfl rfl (Ev.mvI rfl) ?_
    refine OPS.store 0 _ rfl rfl rfl (size_run rfl) rfl (cA rfl) rfl rfl H rfl (by simp) ?_
    clear H; intro w H; try simp only [List.set_cons_zero, List.set_cons_succ, putL, Nat.zero_add] at H
    refine OPS.val rfl rfl rfl (Ev.asI rfl) ?_
    refine OPS.nil ?_
    refine WP.ret ⟨[_, _], ⟨(by exact resCellA 0 H rfl (agg_run rfl) (size_run rfl) (by rfl) rfl), rfl, trivial⟩, ?_⟩
    have h : endsErr n l f t ≠ 0 := by simpa using hc2
    have hce : cheapErr n f t amt l most = endsErr n l f t := by rw [cheapErr, if_pos h]
    exact ⟨most, ⟨rfl, hM1, hM2⟩, .inl ⟨by rw [hce]; exact h, by rw [hce]; rfl, H.below⟩⟩
  have h0 : endsErr n l f t = 0 := by simpa using hc2
  obtain ⟨m, s, d, hE⟩ := endsOk_of h0
  refine WP.seq ?_
  refine WP.region ?_
  refine OPS.val rfl rfl rfl (Ev.mvI rfl) ?_
  refine OPS.val rfl rfl rfl (Ev.lss rfl rfl) ?_
  refine OPS.val rfl rfl rfl (Ev.mvB rfl) ?_
  refine OPS.gval rfl rfl rfl rfl rfl (fun hg => Ev.mvI (by rfl)) ?_
  refine OPS.gval rfl rfl rfl rfl rfl (fun hg => Ev.gtr (by exact gvE hg rfl) (by rfl)) ?_
  refine OPS.val rfl rfl rfl ((by exact Ev.pickOr rfl rfl rfl)) ?_
  refine OPS.val rfl rfl rfl (Ev.asB rfl) ?_
  refine OPS.nil ?_
  refine WP.cond rfl (fun hc4 => ?_) (fun hc4 => ?_)
  · refine WP.seq ?_
    refine WP.region ?_
    refine OPS.val rfl rfl rfl (Ev.build (bld_71_ (e := fun _ => .int .i64 0))) ?_
    refine OPS.store 0 _ rfl rfl rfl (size_run rfl) rfl (cA rfl) rfl rfl H rfl (by simp) ?_
    clear H; intro w H; try simp only [List.set_cons_zero, List.set_cons_succ, putL, Nat.zero_add] at H
    refine OPS.val rfl rfl rfl (Ev.asI rfl) ?_
    refine OPS.nil ?_
    refine WP.ret ⟨[_, _], ⟨(by exact resCellA 0 H rfl (agg_run rfl) (size_run rfl) (by rfl) rfl), rfl, trivial⟩, ?_⟩
    have hce : cheapErr n f t amt l most = 1 := by rw [cheapErr, if_neg (by simp [h0]), if_pos hc4]
    exact ⟨most, ⟨rfl, hM1, hM2⟩, .inl ⟨by rw [hce]; decide, by rw [hce]; rfl, H.below⟩⟩
  refine WP.seq ?_
  refine WP.region ?_
  refine OPS.val rfl rfl rfl (Ev.mvI rfl) ?_
  refine OPS.val rfl rfl rfl (Ev.mvI rfl) ?_
  refine OPS.val rfl rfl rfl (Ev.gtr rfl rfl) ?_
  refine OPS.val rfl rfl rfl (Ev.asB rfl) ?_
  refine OPS.nil ?_
  refine WP.cond rfl (fun hc6 => ?_) (fun hc6 => ?_)
  · refine WP.seq ?_
    refine WP.region ?_
    refine OPS.val rfl rfl rfl (Ev.build (bld_71_ (e := fun _ => .int .i64 0))) ?_
    refine OPS.store 0 _ rfl rfl rfl (size_run rfl) rfl (cA rfl) rfl rfl H rfl (by simp) ?_
    clear H; intro w H; try simp only [List.set_cons_zero, List.set_cons_succ, putL, Nat.zero_add] at H
    refine OPS.val rfl rfl rfl (Ev.asI rfl) ?_
    refine OPS.nil ?_
    refine WP.ret ⟨[_, _], ⟨(by exact resCellA 0 H rfl (agg_run rfl) (size_run rfl) (by rfl) rfl), rfl, trivial⟩, ?_⟩
    have hce : cheapErr n f t amt l most = 15 := by rw [cheapErr, if_neg (by simp [h0]), if_neg (by simp [hc4]), if_pos (by simpa using hc6)]
    exact ⟨most, ⟨rfl, hM1, hM2⟩, .inl ⟨by rw [hce]; decide, by rw [hce]; rfl, H.below⟩⟩
  have hce : cheapErr n f t amt l most = 0 := by rw [cheapErr, if_neg (by simp [h0]), if_neg (by simp [hc4]), if_neg (by simpa using hc6)]
  have hma : amt ≤ most := by simp at hc6; omega
  have ha0 : 0 ≤ amt ∧ amt ≤ 65536 := by simp at hc4; omega
  have e1 := hE.hn
  have e2 := hE.hf
  have e3 := hE.ht
  subst e1 e2 e3
  have hN := hE.net
  have hn2 := hN.n2
  have hll := hN.len
  obtain ⟨m', hm', hmax⟩ := hM2 h0
  rw [show m' = m from by omega] at hmax
  clear hm'
  refine WP.skip ?_
  refine WP.seq ?_
  refine WP.rheldC [12, 13, 47, 48, 49, 50, 51, 52, 53, 54, 55] (fun u w' => ∃ g12 g51 g55 : Nat, u 12 = .pointer (some ⟨g12, 0, none⟩) ∧ u 13 = .slice (some ⟨g55, 0, none⟩) m m ∧ SH w0 [] w' [⟨g12, 111, [I m, .slice A l.length cap, .slice (some ⟨g51, 0, none⟩) l.length l.length]⟩, ⟨g51, 3, (List.replicate l.length 0).map I⟩, ⟨g55, 3, (List.replicate m 0).map I⟩, ⟨g8, 71, [I 0, I 0, .slice none 0 0, .slice none 0 0]⟩, ⟨g4, 76, [I m, .slice A l.length cap]⟩]) mixed H ?_ ?_
  · clear H; intro w hbw8 H
    refine OPH.take 0 rfl rfl rfl rfl (by kernel_rfl) (by kernel_rfl) (by kernel_rfl) rfl (by exact H) (fun w H => (by exact Ev.loadO 1 H rfl (agg_run rfl) (size_run rfl) (by rfl) rfl)) ?_
    refine OPH.take 1 rfl rfl rfl rfl (by kernel_rfl) (by kernel_rfl) (by kernel_rfl) rfl (by exact H) (fun w H => Ev.fieldAddr (fld_run rfl) rfl) ?_
    refine OPH.take 2 rfl rfl rfl rfl (by kernel_rfl) (by kernel_rfl) (by kernel_rfl) rfl (by exact H) (fun w H => Ev.load1 (agg_run rfl) rfl (by exact H.ldL 1 rfl _ rfl)) ?_
    refine OPH.take 3 rfl rfl rfl rfl (by kernel_rfl) (by kernel_rfl) (by kernel_rfl) rfl (by exact H) (fun w H => Ev.len (el_run rfl) rfl) ?_
    refine OPH.take 6 rfl rfl rfl rfl (by kernel_rfl) (by kernel_rfl) (by kernel_rfl) rfl (by exact H) (fun w H => Ev.fieldAddr (fld_run rfl) rfl) ?_
    refine OPH.take 7 rfl rfl rfl rfl (by kernel_rfl) (by kernel_rfl) (by kernel_rfl) rfl (by exact H) (fun w H => Ev.load1 (agg_run rfl) rfl (by exact H.ldL 1 rfl _ rfl)) ?_
    refine OPH.all [4, 8, 9] (by kernel_rfl) (by simp) rfl ?_
    intro i hi; simp only [List.mem_cons, List.not_mem_nil, or_false] at hi
    rcases hi with rfl | rfl | rfl
    · refine ⟨_, rfl, ?_⟩
      refine OPS.makeSlice rfl rfl rfl rfl (sl_run rfl) rfl rfl rfl (by omega) (by omega) H ?_
      clear H; intro g51 w H
      refine OPS.nil ?_
      refine ⟨(by exact H.drop (List.sublist_cons_self _ _)), ?_⟩
      refine OPH.take 5 rfl rfl rfl rfl (by kernel_rfl) (by kernel_rfl) (by kernel_rfl) rfl (by exact H.drop (List.sublist_cons_self _ _)) (fun w H => Ev.build (bld_111_0_1 rfl rfl)) ?_
      refine OPH.all [8, 9] (by kernel_rfl) (by simp) rfl ?_
      intro i hi; simp only [List.mem_cons, List.not_mem_nil, or_false] at hi
      rcases hi with rfl | rfl
      · refine ⟨_, rfl, ?_⟩
        refine OPS.makeSlice rfl rfl rfl rfl (sl_run rfl) rfl rfl rfl (by omega) (by omega) H ?_
        clear H; intro g55 w H
        refine OPS.nil ?_
        refine ⟨(by exact H.drop ((List.sublist_cons_self _ _).trans (List.sublist_cons_self _ _))), ?_⟩
        refine OPH.all [9] (by kernel_rfl) (by simp) rfl ?_
        intro i hi; simp only [List.mem_cons, List.not_mem_nil, or_false] at hi
        rcases hi with rfl
        · refine ⟨_, rfl, ?_⟩
          refine OPS.alloc rfl rfl rfl rfl (zero_run rfl) rfl H ?_
          clear H; intro g12 w H
          refine OPS.nil ?_
          refine ⟨(by exact H.drop ((List.sublist_cons_self _ _).trans ((List.sublist_cons_self _ _).trans (List.sublist_cons_self _ _)))), ?_⟩
          refine OPH.all [10] (by kernel_rfl) (by simp) rfl ?_
          intro i hi; simp only [List.mem_cons, List.not_mem_nil, or_false] at hi
          rcases hi with rfl
          · refine ⟨_, rfl, ?_⟩
            refine OPS.store 0 _ rfl rfl rfl (size_run rfl) rfl (cA rfl) rfl rfl H rfl (by simp) ?_
            clear H; intro w H; try simp only [List.set_cons_zero, List.set_cons_succ, putL, Nat.zero_add] at H
            refine OPS.nil ?_
            refine ⟨(by exact H.drop ((List.sublist_cons_self _ _).trans ((List.sublist_cons_self _ _).trans (List.sublist_cons_self _ _)))), ?_⟩
            refine OPH.take 11 rfl rfl rfl rfl (by kernel_rfl) (by kernel_rfl) (by kernel_rfl) rfl (by exact H.drop ((List.sublist_cons_self _ _).trans ((List.sublist_cons_self _ _).trans (List.sublist_cons_self _ _)))) (fun w H => Ev.asS rfl) ?_
            refine OPH.done (by kernel_rfl) ?_
            refine ⟨(by repeat (first | exact Agree.refl _ _ | exact Agree.mix _ _ _ | refine Agree.upd rfl ?_ | refine Agree.mix2 rfl ?_)), g12, g51, g55, rfl, rfl, ?_⟩; rw [← mkL_ones, ← mkL_ones]; exact H.reidx [0, 2, 1, 3, 4] (by decide) rfl
      · refine ⟨_, rfl, ?_⟩
        refine OPS.alloc rfl rfl rfl rfl (zero_run rfl) rfl H ?_
        clear H; intro g12 w H
        refine OPS.nil ?_
        refine ⟨(by exact H.drop ((List.sublist_cons_self _ _).trans (List.sublist_cons_self _ _))), ?_⟩
        refine OPH.all [8, 10] (by kernel_rfl) (by simp) rfl ?_
        intro i hi; simp only [List.mem_cons, List.not_mem_nil, or_false] at hi
        rcases hi with rfl | rfl
        · refine ⟨_, rfl, ?_⟩
          refine OPS.makeSlice rfl rfl rfl rfl (sl_run rfl) rfl rfl rfl (by omega) (by omega) H ?_
          clear H; intro g55 w H
          refine OPS.nil ?_
          refine ⟨(by exact H.drop ((List.sublist_cons_self _ _).trans ((List.sublist_cons_self _ _).trans (List.sublist_cons_self _ _)))), ?_⟩
          refine OPH.all [10] (by kernel_rfl) (by simp) rfl ?_
          intro i hi; simp only [List.mem_cons, List.not_mem_nil, or_false] at hi
          rcases hi with rfl
          · refine ⟨_, rfl, ?_⟩
            refine OPS.store 1 _ rfl rfl rfl (size_run rfl) rfl (cA rfl) rfl rfl H rfl (by simp) ?_
            clear H; intro w H; try simp only [List.set_cons_zero, List.set_cons_succ, putL, Nat.zero_add] at H
            refine OPS.nil ?_
            refine ⟨(by exact H.drop ((List.sublist_cons_self _ _).trans ((List.sublist_cons_self _ _).trans (List.sublist_cons_self _ _)))), ?_⟩
            refine OPH.take 11 rfl rfl rfl rfl (by kernel_rfl) (by kernel_rfl) (by kernel_rfl) rfl (by exact H.drop ((List.sublist_cons_self _ _).trans ((List.sublist_cons_self _ _).trans (List.sublist_cons_self _ _)))) (fun w H => Ev.asS rfl) ?_
            refine OPH.done (by kernel_rfl) ?_
            refine ⟨(by repeat (first | exact Agree.refl _ _ | exact Agree.mix _ _ _ | refine Agree.upd rfl ?_ | refine Agree.mix2 rfl ?_)), g12, g51, g55, rfl, rfl, ?_⟩; rw [← mkL_ones, ← mkL_ones]; exact H.reidx [1, 2, 0, 3, 4] (by decide) rfl
        · refine ⟨_, rfl, ?_⟩
          refine OPS.store 0 _ rfl rfl rfl (size_run rfl) rfl (cA rfl) rfl rfl H rfl (by simp) ?_
          clear H; intro w H; try simp only [List.set_cons_zero, List.set_cons_succ, putL, Nat.zero_add] at H
          refine OPS.nil ?_
          refine ⟨(by exact H.drop ((List.sublist_cons_self _ _).trans (List.sublist_cons_self _ _))), ?_⟩
          refine OPH.all [8] (by kernel_rfl) (by simp) rfl ?_
          intro i hi; simp only [List.mem_cons, List.not_mem_nil, or_false] at hi
          rcases hi with rfl
          · refine ⟨_, rfl, ?_⟩
            refine OPS.makeSlice rfl rfl rfl rfl (sl_run rfl) rfl rfl rfl (by omega) (by omega) H ?_
            clear H; intro g55 w H
            refine OPS.nil ?_
            refine ⟨(by exact H.drop ((List.sublist_cons_self _ _).trans ((List.sublist_cons_self _ _).trans (List.sublist_cons_self _ _)))), ?_⟩
            refine OPH.take 11 rfl rfl rfl rfl (by kernel_rfl) (by kernel_rfl) (by kernel_rfl) rfl (by exact H.drop ((List.sublist_cons_self _ _).trans ((List.sublist_cons_self _ _).trans (List.sublist_cons_self _ _)))) (fun w H => Ev.asS rfl) ?_
            refine OPH.done (by kernel_rfl) ?_
            refine ⟨(by repeat (first | exact Agree.refl _ _ | exact Agree.mix _ _ _ | refine Agree.upd rfl ?_ | refine Agree.mix2 rfl ?_)), g12, g51, g55, rfl, rfl, ?_⟩; rw [← mkL_ones, ← mkL_ones]; exact H.reidx [1, 2, 0, 3, 4] (by decide) rfl
    · refine ⟨_, rfl, ?_⟩
      refine OPS.makeSlice rfl rfl rfl rfl (sl_run rfl) rfl rfl rfl (by omega) (by omega) H ?_
      clear H; intro g55 w H
      refine OPS.nil ?_
      refine ⟨(by exact H.drop (List.sublist_cons_self _ _)), ?_⟩
      refine OPH.all [4, 9] (by kernel_rfl) (by simp) rfl ?_
      intro i hi; simp only [List.mem_cons, List.not_mem_nil, or_false] at hi
      rcases hi with rfl | rfl
      · refine ⟨_, rfl, ?_⟩
        refine OPS.makeSlice rfl rfl rfl rfl (sl_run rfl) rfl rfl rfl (by omega) (by omega) H ?_
        clear H; intro g51 w H
        refine OPS.nil ?_
        refine ⟨(by exact H.drop ((List.sublist_cons_self _ _).trans (List.sublist_cons_self _ _))), ?_⟩
        refine OPH.take 5 rfl rfl rfl rfl (by kernel_rfl) (by kernel_rfl) (by kernel_rfl) rfl (by exact H.drop ((List.sublist_cons_self _ _).trans (List.sublist_cons_self _ _))) (fun w H => Ev.build (bld_111_0_1 rfl rfl)) ?_
        refine OPH.all [9] (by kernel_rfl) (by simp) rfl ?_
        intro i hi; simp only [List.mem_cons, List.not_mem_nil, or_false] at hi
        rcases hi with rfl
        · refine ⟨_, rfl, ?_⟩
          refine OPS.alloc rfl rfl rfl rfl (zero_run rfl) rfl H ?_
          clear H; intro g12 w H
          refine OPS.nil ?_
          refine ⟨(by exact H.drop ((List.sublist_cons_self _ _).trans ((List.sublist_cons_self _ _).trans (List.sublist_cons_self _ _)))), ?_⟩
          refine OPH.all [10] (by kernel_rfl) (by simp) rfl ?_
          intro i hi; simp only [List.mem_cons, List.not_mem_nil, or_false] at hi
          rcases hi with rfl
          · refine ⟨_, rfl, ?_⟩
            refine OPS.store 0 _ rfl rfl rfl (size_run rfl) rfl (cA rfl) rfl rfl H rfl (by simp) ?_
            clear H; intro w H; try simp only [List.set_cons_zero, List.set_cons_succ, putL, Nat.zero_add] at H
            refine OPS.nil ?_
            refine ⟨(by exact H.drop ((List.sublist_cons_self _ _).trans ((List.sublist_cons_self _ _).trans (List.sublist_cons_self _ _)))), ?_⟩
            refine OPH.take 11 rfl rfl rfl rfl (by kernel_rfl) (by kernel_rfl) (by kernel_rfl) rfl (by exact H.drop ((List.sublist_cons_self _ _).trans ((List.sublist_cons_self _ _).trans (List.sublist_cons_self _ _)))) (fun w H => Ev.asS rfl) ?_
            refine OPH.done (by kernel_rfl) ?_
            refine ⟨(by repeat (first | exact Agree.refl _ _ | exact Agree.mix _ _ _ | refine Agree.upd rfl ?_ | refine Agree.mix2 rfl ?_)), g12, g51, g55, rfl, rfl, ?_⟩; rw [← mkL_ones, ← mkL_ones]; exact H.reidx [0, 1, 2, 3, 4] (by decide) rfl
      · refine ⟨_, rfl, ?_⟩
        refine OPS.alloc rfl rfl rfl rfl (zero_run rfl) rfl H ?_
        clear H; intro g12 w H
        refine OPS.nil ?_
        refine ⟨(by exact H.drop ((List.sublist_cons_self _ _).trans (List.sublist_cons_self _ _))), ?_⟩
        refine OPH.all [4] (by kernel_rfl) (by simp) rfl ?_
        intro i hi; simp only [List.mem_cons, List.not_mem_nil, or_false] at hi
        rcases hi with rfl
        · refine ⟨_, rfl, ?_⟩
          refine OPS.makeSlice rfl rfl rfl rfl (sl_run rfl) rfl rfl rfl (by omega) (by omega) H ?_
          clear H; intro g51 w H
          refine OPS.nil ?_
          refine ⟨(by exact H.drop ((List.sublist_cons_self _ _).trans ((List.sublist_cons_self _ _).trans (List.sublist_cons_self _ _)))), ?_⟩
          refine OPH.take 5 rfl rfl rfl rfl (by kernel_rfl) (by kernel_rfl) (by kernel_rfl) rfl (by exact H.drop ((List.sublist_cons_self _ _).trans ((List.sublist_cons_self _ _).trans (List.sublist_cons_self _ _)))) (fun w H => Ev.build (bld_111_0_1 rfl rfl)) ?_
          refine OPH.all [10] (by kernel_rfl) (by simp) rfl ?_
          intro i hi; simp only [List.mem_cons, List.not_mem_nil, or_false] at hi
          rcases hi with rfl
          · refine ⟨_, rfl, ?_⟩
            refine OPS.store 1 _ rfl rfl rfl (size_run rfl) rfl (cA rfl) rfl rfl H rfl (by simp) ?_
            clear H; intro w H; try simp only [List.set_cons_zero, List.set_cons_succ, putL, Nat.zero_add] at H
            refine OPS.nil ?_
            refine ⟨(by exact H.drop ((List.sublist_cons_self _ _).trans ((List.sublist_cons_self _ _).trans (List.sublist_cons_self _ _)))), ?_⟩
            refine OPH.take 11 rfl rfl rfl rfl (by kernel_rfl) (by kernel_rfl) (by kernel_rfl) rfl (by exact H.drop ((List.sublist_cons_self _ _).trans ((List.sublist_cons_self _ _).trans (List.sublist_cons_self _ _)))) (fun w H => Ev.asS rfl) ?_
            refine OPH.done (by kernel_rfl) ?_
            refine ⟨(by repeat (first | exact Agree.refl _ _ | exact Agree.mix _ _ _ | refine Agree.upd rfl ?_ | refine Agree.mix2 rfl ?_)), g12, g51, g55, rfl, rfl, ?_⟩; rw [← mkL_ones, ← mkL_ones]; exact H.reidx [1, 0, 2, 3, 4] (by decide) rfl
    · refine ⟨_, rfl, ?_⟩
      refine OPS.alloc rfl rfl rfl rfl (zero_run rfl) rfl H ?_
      clear H; intro g12 w H
      refine OPS.nil ?_
      refine ⟨(by exact H.drop (List.sublist_cons_self _ _)), ?_⟩
      refine OPH.all [4, 8] (by kernel_rfl) (by simp) rfl ?_
      intro i hi; simp only [List.mem_cons, List.not_mem_nil, or_false] at hi
      rcases hi with rfl | rfl
      · refine ⟨_, rfl, ?_⟩
        refine OPS.makeSlice rfl rfl rfl rfl (sl_run rfl) rfl rfl rfl (by omega) (by omega) H ?_
        clear H; intro g51 w H
        refine OPS.nil ?_
        refine ⟨(by exact H.drop ((List.sublist_cons_self _ _).trans (List.sublist_cons_self _ _))), ?_⟩
        refine OPH.take 5 rfl rfl rfl rfl (by kernel_rfl) (by kernel_rfl) (by kernel_rfl) rfl (by exact H.drop ((List.sublist_cons_self _ _).trans (List.sublist_cons_self _ _))) (fun w H => Ev.build (bld_111_0_1 rfl rfl)) ?_
        refine OPH.all [8, 10] (by kernel_rfl) (by simp) rfl ?_
        intro i hi; simp only [List.mem_cons, List.not_mem_nil, or_false] at hi
        rcases hi with rfl | rfl
        · refine ⟨_, rfl, ?_⟩
          refine OPS.makeSlice rfl rfl rfl rfl (sl_run rfl) rfl rfl rfl (by omega) (by omega) H ?_
          clear H; intro g55 w H
          refine OPS.nil ?_
          refine ⟨(by exact H.drop ((List.sublist_cons_self _ _).trans ((List.sublist_cons_self _ _).trans (List.sublist_cons_self _ _)))), ?_⟩
          refine OPH.all [10] (by kernel_rfl) (by simp) rfl ?_
          intro i hi; simp only [List.mem_cons, List.not_mem_nil, or_false] at hi
          rcases hi with rfl
          · refine ⟨_, rfl, ?_⟩
            refine OPS.store 2 _ rfl rfl rfl (size_run rfl) rfl (cA rfl) rfl rfl H rfl (by simp) ?_
            clear H; intro w H; try simp only [List.set_cons_zero, List.set_cons_succ, putL, Nat.zero_add] at H
            refine OPS.nil ?_
            refine ⟨(by exact H.drop ((List.sublist_cons_self _ _).trans ((List.sublist_cons_self _ _).trans (List.sublist_cons_self _ _)))), ?_⟩
            refine OPH.take 11 rfl rfl rfl rfl (by kernel_rfl) (by kernel_rfl) (by kernel_rfl) rfl (by exact H.drop ((List.sublist_cons_self _ _).trans ((List.sublist_cons_self _ _).trans (List.sublist_cons_self _ _)))) (fun w H => Ev.asS rfl) ?_
            refine OPH.done (by kernel_rfl) ?_
            refine ⟨(by repeat (first | exact Agree.refl _ _ | exact Agree.mix _ _ _ | refine Agree.upd rfl ?_ | refine Agree.mix2 rfl ?_)), g12, g51, g55, rfl, rfl, ?_⟩; rw [← mkL_ones, ← mkL_ones]; exact H.reidx [2, 1, 0, 3, 4] (by decide) rfl
        · refine ⟨_, rfl, ?_⟩
          refine OPS.store 1 _ rfl rfl rfl (size_run rfl) rfl (cA rfl) rfl rfl H rfl (by simp) ?_
          clear H; intro w H; try simp only [List.set_cons_zero, List.set_cons_succ, putL, Nat.zero_add] at H
          refine OPS.nil ?_
          refine ⟨(by exact H.drop ((List.sublist_cons_self _ _).trans (List.sublist_cons_self _ _))), ?_⟩
          refine OPH.all [8] (by kernel_rfl) (by simp) rfl ?_
          intro i hi; simp only [List.mem_cons, List.not_mem_nil, or_false] at hi
          rcases hi with rfl
          · refine ⟨_, rfl, ?_⟩
            refine OPS.makeSlice rfl rfl rfl rfl (sl_run rfl) rfl rfl rfl (by omega) (by omega) H ?_
            clear H; intro g55 w H
            refine OPS.nil ?_
            refine ⟨(by exact H.drop ((List.sublist_cons_self _ _).trans ((List.sublist_cons_self _ _).trans (List.sublist_cons_self _ _)))), ?_⟩
            refine OPH.take 11 rfl rfl rfl rfl (by kernel_rfl) (by kernel_rfl) (by kernel_rfl) rfl (by exact H.drop ((List.sublist_cons_self _ _).trans ((List.sublist_cons_self _ _).trans (List.sublist_cons_self _ _)))) (fun w H => Ev.asS rfl) ?_
            refine OPH.done (by kernel_rfl) ?_
            refine ⟨(by repeat (first | exact Agree.refl _ _ | exact Agree.mix _ _ _ | refine Agree.upd rfl ?_ | refine Agree.mix2 rfl ?_)), g12, g51, g55, rfl, rfl, ?_⟩; rw [← mkL_ones, ← mkL_ones]; exact H.reidx [2, 1, 0, 3, 4] (by decide) rfl
      · refine ⟨_, rfl, ?_⟩
        refine OPS.makeSlice rfl rfl rfl rfl (sl_run rfl) rfl rfl rfl (by omega) (by omega) H ?_
        clear H; intro g55 w H
        refine OPS.nil ?_
        refine ⟨(by exact H.drop ((List.sublist_cons_self _ _).trans (List.sublist_cons_self _ _))), ?_⟩
        refine OPH.all [4] (by kernel_rfl) (by simp) rfl ?_
        intro i hi; simp only [List.mem_cons, List.not_mem_nil, or_false] at hi
        rcases hi with rfl
        · refine ⟨_, rfl, ?_⟩
          refine OPS.makeSlice rfl rfl rfl rfl (sl_run rfl) rfl rfl rfl (by omega) (by omega) H ?_
          clear H; intro g51 w H
          refine OPS.nil ?_
          refine ⟨(by exact H.drop ((List.sublist_cons_self _ _).trans ((List.sublist_cons_self _ _).trans (List.sublist_cons_self _ _)))), ?_⟩
          refine OPH.take 5 rfl rfl rfl rfl (by kernel_rfl) (by kernel_rfl) (by kernel_rfl) rfl (by exact H.drop ((List.sublist_cons_self _ _).trans ((List.sublist_cons_self _ _).trans (List.sublist_cons_self _ _)))) (fun w H => Ev.build (bld_111_0_1 rfl rfl)) ?_
          refine OPH.all [10] (by kernel_rfl) (by simp) rfl ?_
          intro i hi; simp only [List.mem_cons, List.not_mem_nil, or_false] at hi
          rcases hi with rfl
          · refine ⟨_, rfl, ?_⟩
            refine OPS.store 2 _ rfl rfl rfl (size_run rfl) rfl (cA rfl) rfl rfl H rfl (by simp) ?_
            clear H; intro w H; try simp only [List.set_cons_zero, List.set_cons_succ, putL, Nat.zero_add] at H
            refine OPS.nil ?_
            refine ⟨(by exact H.drop ((List.sublist_cons_self _ _).trans ((List.sublist_cons_self _ _).trans (List.sublist_cons_self _ _)))), ?_⟩
            refine OPH.take 11 rfl rfl rfl rfl (by kernel_rfl) (by kernel_rfl) (by kernel_rfl) rfl (by exact H.drop ((List.sublist_cons_self _ _).trans ((List.sublist_cons_self _ _).trans (List.sublist_cons_self _ _)))) (fun w H => Ev.asS rfl) ?_
            refine OPH.done (by kernel_rfl) ?_
            refine ⟨(by repeat (first | exact Agree.refl _ _ | exact Agree.mix _ _ _ | refine Agree.upd rfl ?_ | refine Agree.mix2 rfl ?_)), g12, g51, g55, rfl, rfl, ?_⟩; rw [← mkL_ones, ← mkL_ones]; exact H.reidx [2, 0, 1, 3, 4] (by decide) rfl
  clear H
  rintro u w ⟨g12, g51, g55, h12, h13, H⟩
  refine WP.know (t := 12) h12 (WP.know (t := 13) h13 ?_)
  refine WP.seq ?_
  refine WP.seq ?_
  refine WP.region ?_
  refine OPS.val rfl rfl rfl (Ev.mvI rfl) ?_
  refine OPS.val rfl rfl rfl (Ev.asI rfl) ?_
  refine OPS.nil ?_
  refine WP.block ?_
  refine WP.loop [14, 15, 16, 17, 18, 19, 20, 21, 57, 58, 59, 60, 61, 62, 63, 64, 65, 66, 67, 68, 69, 70, 71, 72, 73, 74, 75, 76, 77, 78, 79, 80, 81, 82, 83, 84, 85, 86, 87, 88, 89, 90, 91, 92, 93, 94, 95, 96, 97, 98, 99, 100, 101, 102, 103, 104, 105, 106, 107, 108, 109, 110, 111, 112, 113, 114, 115, 116] (fun k e w' => ∃ (left : Int) (on pots : List Int), on.length = l.length ∧ e 14 = I left ∧ 0 ≤ left ∧ left ≤ amt ∧ left = k ∧ IsFlow m l s d on (amt - left) ∧ OptPot (potF pots) l on ∧ PInv m s pots ∧ SH w0 [] w' [⟨g12, 111, [I m, .slice A l.length cap, .slice (some ⟨g51, 0, none⟩) l.length l.length]⟩, ⟨g51, 3, on.map I⟩, ⟨g55, 3, pots.map I⟩, ⟨g8, 71, [I 0, I 0, .slice none 0 0, .slice none 0 0]⟩, ⟨g4, 76, [I m, .slice A l.length cap]⟩]) (amt.toNat) (⟨amt, List.replicate l.length 0, List.replicate m 0, by simp, rfl, ha0.1, Int.le_refl _, by omega, by rw [Int.sub_self]; exact zero_isFlow fun a ha => (hN.caps a ha).1.1, zero_opt fun a ha => (hN.caps a ha).2.1, PInv.init s, H⟩) ?_
  clear H
  rintro k u w ⟨left, on, pots, hol, h14, hl0, hl1, hlk, hfl, hop, hpi, H⟩
  refine WP.know (t := 14) h14 ?_
  have hpl := hpi.len
  have hsz := pinv_small hpi hn2
  have hob : ∀ i (h : i < on.length), 0 ≤ on[i] ∧ on[i] ≤ 65536 := fun i h => by
    have h1 := hfl.v.bd i (by omega) h
    have h2 := (hN.caps l[i] (List.getElem_mem (by omega))).1
    omega
  refine WP.seq ?_
  refine WP.seq ?_
  refine WP.region ?_
  refine OPS.val rfl rfl rfl (Ev.mvI rfl) ?_
  refine OPS.val rfl rfl rfl (Ev.gtr rfl rfl) ?_
  refine OPS.nil ?_
  refine WP.cond rfl (fun hc10 => ?_) (fun hc10 => ?_)
  · have hlp : 0 < left := by simpa using hc10
    refine WP.skip ?_
    refine WP.block ?_
    refine WP.seq ?_
    refine WP.region ?_
    refine OPS.val rfl rfl rfl ((by exact Ev.loadO 0 H rfl (agg_run rfl) (size_run rfl) (by rfl) rfl)) ?_
    refine OPS.val rfl rfl rfl (Ev.mvI rfl) ?_
    refine OPS.val rfl rfl rfl (Ev.mvS rfl) ?_
    have hnear := flowNearest m s A (some ⟨g51, 0, none⟩) (some ⟨g55, 0, none⟩) l on pots cap l.length m w hE.s1 hN hol hpl (hz.sh H) (onesOwn H 1 rfl) (onesOwn H 2 rfl) hfl.v hop hpi.zero (fun i h => by
      have := hsz i (by omega)
      rw [List.getD_eq_getElem?_getD, List.getElem?_eq_getElem h] at this
      simpa using this)
    rw [hol, hpl] at hnear
    refine OPS.call (d := some 63) rfl rfl rfl (EvC.func (fun_run rfl)) (hnear) ?_
    rintro _ w ⟨gS, gI, sts, dist, rk, rfl, hnr, Hc⟩
    refine ⟨_, rfl, ?_⟩
    replace H := SH.call (L1 := [⟨g12, 111, [I m, .slice A l.length cap, .slice (some ⟨g51, 0, none⟩) l.length l.length]⟩, ⟨g51, 3, on.map I⟩, ⟨g55, 3, pots.map I⟩, ⟨g8, 71, [I 0, I 0, .slice none 0 0, .slice none 0 0]⟩, ⟨g4, 76, [I m, .slice A l.length cap]⟩]) (Lv := []) (by simpa using H) Hc
    clear Hc hnear
    simp only [List.cons_append, List.nil_append] at H
    have hsl := hnr.slen
    have hdl := hnr.dlen
    refine OPS.val rfl rfl rfl (Ev.mvT rfl) ?_
    refine OPS.val rfl rfl rfl (Ev.extract rfl rfl) ?_
    refine OPS.val rfl rfl rfl (Ev.extract rfl rfl) ?_
    refine OPS.val rfl rfl rfl (Ev.asS rfl) ?_
    refine OPS.val rfl rfl rfl (Ev.asS rfl) ?_
    refine OPS.nil ?_
    refine WP.seq ?_
    refine WP.region ?_
    refine OPS.val rfl rfl rfl (Ev.asI rfl) ?_
    refine OPS.nil ?_
    refine WP.seq ?_
    refine WP.seq ?_
    refine WP.region ?_
    refine OPS.val rfl rfl rfl (Ev.mvS rfl) ?_
    refine OPS.val rfl rfl rfl (Ev.len (el_run rfl) rfl) ?_
    refine OPS.val rfl rfl rfl (Ev.mvI rfl) ?_
    refine OPS.nil ?_
    refine WP.block ?_
    refine WP.loop [17, 18, 19, 68, 69, 70, 71, 72, 73, 74, 75, 76, 77, 78, 79, 80, 81] (fun g e w' => ∃ q : Nat, q + g = m ∧ e 68 = I q ∧ e 17 = I (farTo sts dist q) ∧ SH w0 [] w' [⟨g12, 111, [I m, .slice A l.length cap, .slice (some ⟨g51, 0, none⟩) l.length l.length]⟩, ⟨g51, 3, on.map I⟩, ⟨g55, 3, pots.map I⟩, ⟨g8, 71, [I 0, I 0, .slice none 0 0, .slice none 0 0]⟩, ⟨g4, 76, [I m, .slice A l.length cap]⟩, ⟨gS, 116, sts.flatMap stepCells⟩, ⟨gI, 3, dist.map I⟩]) (m) (⟨0, by omega, rfl, rfl, H⟩) ?_
    clear H
    rintro g u2 w ⟨q, hq, h68, h17, H⟩
    refine WP.know (t := 68) h68 (WP.know (t := 17) h17 ?_)
    refine WP.seq ?_
    refine WP.region ?_
    refine OPS.val rfl rfl rfl (Ev.lss rfl rfl) ?_
    refine OPS.nil ?_
    refine WP.seq ?_
    refine WP.cond rfl (fun hc14 => ?_) (fun hc14 => ?_)
    · have hqm : q < m := by simpa using hc14
      obtain ⟨_, _, e1, hrow⟩ := rowsOwn' stepCells_len H 5 rfl q (by omega)
      cases e1
      have hkq : kn sts q = sts[q].known := by unfold kn; simp [hsl, hqm]
      have hdq : dAt dist q = dist[q]'(by omega) := by simp [dAt, hdl, hqm]
      refine WP.skip ?_
      refine WP.seq ?_
      refine WP.block ?_
      refine WP.seq ?_
      refine WP.region ?_
      refine OPS.val rfl rfl rfl (Ev.mvI rfl) ?_
      refine OPS.val rfl rfl rfl ((by exact Ev.indexAddr (el_run rfl) (size_run rfl) rfl rfl rfl (by omega))) ?_
      refine OPS.val rfl rfl rfl ((by (change Ev _ _ _ _ (Op.load 116 (Operand.tmp 71)) _; exact Ev.loadN (stepCells sts[q]) (agg_run rfl) (size_run rfl) rfl hrow))) ?_
      refine OPS.alloc rfl rfl rfl rfl (zero_run rfl) rfl H ?_
      clear H; intro g19 w H
      refine OPS.val rfl rfl rfl (Ev.asI rfl) ?_
      refine OPS.store 0 _ rfl rfl rfl (size_run rfl) rfl (cA rfl) rfl rfl H rfl (by simp) ?_
      clear H; intro w H; try simp only [List.set_cons_zero, List.set_cons_succ, putL, Nat.zero_add] at H
      refine OPS.nil ?_
      refine WP.seq ?_
      refine WP.region ?_
      refine OPS.val rfl rfl rfl (Ev.fieldAddr (fld_run rfl) rfl) ?_
      refine OPS.val rfl rfl rfl (Ev.load1 (agg_run rfl) rfl (by exact H.ldL 0 rfl _ rfl)) ?_
      refine OPS.nil ?_
      refine WP.cond rfl (fun hc16 => ?_) (fun hc16 => ?_)
      · have hfar : farTo sts dist (q + 1) = (if farTo sts dist q < dist[q] then dist[q] else farTo sts dist q) := by rw [farTo, if_pos (by rw [hkq]; exact hc16), hdq]
        refine WP.region ?_
        obtain ⟨_, _, e1, hdc⟩ := onesOwn H 7 rfl q (by omega)
        cases e1
        refine OPS.val rfl rfl rfl (Ev.mvI rfl) ?_
        refine OPS.val rfl rfl rfl (Ev.mvS rfl) ?_
        refine OPS.val rfl rfl rfl (Ev.mvI rfl) ?_
        refine OPS.val rfl rfl rfl ((by exact Ev.indexAddr1 (el_run rfl) (size_run rfl) rfl rfl rfl (by omega))) ?_
        refine OPS.val rfl rfl rfl (Ev.load1 (agg_run rfl) rfl (by assumption)) ?_
        refine OPS.val rfl rfl rfl (Ev.max rfl rfl) ?_
        refine OPS.val rfl rfl rfl (Ev.asI rfl) ?_
        refine OPS.nil ?_
        refine WP.region ?_
        refine OPS.val rfl rfl rfl (Ev.add rfl rfl (by unfold fits; omega)) ?_
        refine OPS.val rfl rfl rfl (Ev.mvI rfl) ?_
        refine OPS.nil ?_
        exact ⟨(by repeat (first | exact Agree.refl _ _ | exact Agree.mix _ _ _ | refine Agree.upd rfl ?_ | refine Agree.mix2 rfl ?_)), g - 1, by omega, q + 1, by omega, rfl, by rw [hfar]; rfl, H.drop (List.sublist_cons_self _ _)⟩
      have hfar : farTo sts dist (q + 1) = farTo sts dist q := by rw [farTo, if_neg (by rw [hkq, hc16]; simp)]
      refine WP.skip ?_
      refine WP.region ?_
      refine OPS.val rfl rfl rfl (Ev.add rfl rfl (by unfold fits; omega)) ?_
      refine OPS.val rfl rfl rfl (Ev.mvI rfl) ?_
      refine OPS.nil ?_
      exact ⟨(by repeat (first | exact Agree.refl _ _ | exact Agree.mix _ _ _ | refine Agree.upd rfl ?_ | refine Agree.mix2 rfl ?_)), g - 1, by omega, q + 1, by omega, rfl, by rw [hfar]; rfl, H.drop (List.sublist_cons_self _ _)⟩
    have hqm : m = q := by simp at hc14; omega
    subst hqm
    obtain ⟨hF0, hF1, _⟩ := farTo_spec sts dist m
    have hpi2 := hpi.step hnr hE.s1
    generalize hF : farTo sts dist m = F at *
    have hnl := newL_length sts dist F pots
    refine WP.exit ?_
    refine XB.hit ?_
    refine WP.seq ?_
    refine WP.seq ?_
    refine WP.region ?_
    refine OPS.val rfl rfl rfl (Ev.mvS rfl) ?_
    refine OPS.val rfl rfl rfl (Ev.len (el_run rfl) rfl) ?_
    refine OPS.val rfl rfl rfl (Ev.mvI rfl) ?_
    refine OPS.nil ?_
    refine WP.block ?_
    refine WP.loop [20, 21, 84, 85, 86, 87, 88, 89, 90, 91, 92, 93, 94, 95, 96, 97, 98, 99, 100, 101, 102, 103, 104, 105, 106, 107, 108] (fun g e w' => ∃ q : Nat, q + g = m ∧ e 84 = I q ∧ SH w0 [] w' [⟨g12, 111, [I m, .slice A l.length cap, .slice (some ⟨g51, 0, none⟩) l.length l.length]⟩, ⟨g51, 3, on.map I⟩, ⟨g55, 3, (mixL (newL sts dist F pots) pots q).map I⟩, ⟨g8, 71, [I 0, I 0, .slice none 0 0, .slice none 0 0]⟩, ⟨g4, 76, [I m, .slice A l.length cap]⟩, ⟨gS, 116, sts.flatMap stepCells⟩, ⟨gI, 3, dist.map I⟩]) (m) (⟨0, by omega, rfl, by rw [mixL_zero]; exact H⟩) ?_
    clear H hq
    rintro g u3 w ⟨q, hq, h84, H⟩
    refine WP.know (t := 84) h84 ?_
    refine WP.seq ?_
    refine WP.region ?_
    refine OPS.val rfl rfl rfl (Ev.lss rfl rfl) ?_
    refine OPS.nil ?_
    refine WP.seq ?_
    refine WP.cond rfl (fun hc20 => ?_) (fun hc20 => ?_)
    · have hqm : q < m := by simpa using hc20
      obtain ⟨_, _, e1, hrow⟩ := rowsOwn' stepCells_len H 5 rfl q (by omega)
      cases e1
      have hkq : kn sts q = sts[q].known := by unfold kn; simp [hsl, hqm]
      have hdq : dAt dist q = dist[q]'(by omega) := by simp [dAt, hdl, hqm]
      have hml : (mixL (newL sts dist F pots) pots q).length = m := by rw [mixL_length hnl (by omega)]; omega
      have hpq : pots.getD q 0 = pots[q]'(by omega) := by simp [hpl, hqm]
      have hmq : (mixL (newL sts dist F pots) pots q)[q]'(by omega) = pots[q]'(by omega) := by
        have := mixL_get (m := pots) hnl (show q < (newL sts dist F pots).length by omega)
        rw [List.getElem?_eq_getElem (by omega), List.getElem?_eq_getElem (by omega)] at this
        simpa using this
      have hnq : (newL sts dist F pots)[q]'(by omega) = pots[q]'(by omega) + (if kn sts q = true then dist[q]'(by omega) else F) := by
        have := newL_at (sts := sts) (dist := dist) (F := F) (show q < pots.length by omega)
        rw [hpq, hdq, List.getD_eq_getElem?_getD, List.getElem?_eq_getElem (by omega)] at this
        simpa using this
      have hms := mixL_set (m := pots) hnl (show q < (newL sts dist F pots).length by omega)
      have hbq := hsz q hqm
      rw [hpq] at hbq
      have hkb : kn sts q = true → 0 ≤ dist[q]'(by omega) ∧ dist[q]'(by omega) ≤ 65536 * m := fun hk => by
        have q1 := hnr.nn q hqm hk
        have q2 := hnr.bd q hqm hk
        simp only [pof, Int.toNat_natCast] at q2
        rw [hpq] at q2
        rw [hdq] at q1 q2; omega
      refine WP.skip ?_
      refine WP.seq ?_
      refine WP.block ?_
      refine WP.seq ?_
      refine WP.region ?_
      refine OPS.val rfl rfl rfl (Ev.mvI rfl) ?_
      refine OPS.val rfl rfl rfl ((by exact Ev.indexAddr (el_run rfl) (size_run rfl) rfl rfl rfl (by omega))) ?_
      refine OPS.val rfl rfl rfl ((by (change Ev _ _ _ _ (Op.load 116 (Operand.tmp 87)) _; exact Ev.loadN (stepCells sts[q]) (agg_run rfl) (size_run rfl) rfl hrow))) ?_
      refine OPS.alloc rfl rfl rfl rfl (zero_run rfl) rfl H ?_
      clear H; intro g21 w H
      refine OPS.val rfl rfl rfl (Ev.asI rfl) ?_
      refine OPS.store 0 _ rfl rfl rfl (size_run rfl) rfl (cA rfl) rfl rfl H rfl (by simp) ?_
      clear H; intro w H; try simp only [List.set_cons_zero, List.set_cons_succ, putL, Nat.zero_add] at H
      refine OPS.nil ?_
      refine WP.seq ?_
      refine WP.region ?_
      refine OPS.val rfl rfl rfl (Ev.fieldAddr (fld_run rfl) rfl) ?_
      refine OPS.val rfl rfl rfl (Ev.load1 (agg_run rfl) rfl (by exact H.ldL 0 rfl _ rfl)) ?_
      refine OPS.nil ?_
      refine WP.cond rfl (fun hc22 => ?_) (fun hc22 => ?_)
      · have hkb2 := hkb (by rw [hkq]; exact hc22)
        rw [if_pos (by rw [hkq]; exact hc22)] at hnq
        refine WP.rtail 10 mixed (by kernel_rfl) H ?_
        clear H; intro w hbw23 H
        obtain ⟨_, _, e1, hpc⟩ := onesOwn H 3 rfl q (by omega)
        cases e1
        rw [hmq] at hpc
        obtain ⟨_, _, e1, hdc⟩ := onesOwn H 7 rfl q (by omega)
        cases e1
        refine OPS.val rfl rfl rfl (Ev.mvS rfl) ?_
        refine OPS.val rfl rfl rfl (Ev.mvI rfl) ?_
        refine OPS.val rfl rfl rfl ((by exact Ev.indexAddr1 (el_run rfl) (size_run rfl) rfl rfl rfl (by omega))) ?_
        refine OPS.val rfl rfl rfl (Ev.load1 (agg_run rfl) rfl (by assumption)) ?_
        refine OPS.val rfl rfl rfl (Ev.mvS rfl) ?_
        refine OPS.val rfl rfl rfl (Ev.mvI rfl) ?_
        refine OPS.val rfl rfl rfl ((by exact Ev.indexAddr1 (el_run rfl) (size_run rfl) rfl rfl rfl (by omega))) ?_
        refine OPS.val rfl rfl rfl (Ev.load1 (agg_run rfl) rfl (by assumption)) ?_
        refine OPS.val rfl rfl rfl (Ev.add rfl rfl (by unfold fits; omega)) ?_
        refine OPS.val rfl rfl rfl ((by exact Ev.indexAddr1 (el_run rfl) (size_run rfl) rfl rfl rfl (by omega))) ?_
        refine OPS.nil_s ?_
        have hpu : putL ((mixL (newL sts dist F pots) pots q).map I) (0 + q) [I (pots[q] + dist[q])] = (mixL (newL sts dist F pots) pots (q + 1)).map I := by rw [Nat.zero_add, putL_ones, ← hnq, hms]
        refine OPS.store (vs := [I (pots[q] + dist[q])]) 3 _ rfl rfl rfl (size_run rfl) rfl (cI rfl) rfl rfl H rfl (by simp only [List.length_map, hml]; omega) ?_
        clear H; intro w H
        simp only [List.set_cons_zero, List.set_cons_succ] at H
        rw [hpu] at H
        refine OPS.nil ?_
        refine WP.region ?_
        refine OPS.val rfl rfl rfl (Ev.add rfl rfl (by unfold fits; omega)) ?_
        refine OPS.val rfl rfl rfl (Ev.mvI rfl) ?_
        refine OPS.nil ?_
        exact ⟨(by repeat (first | exact Agree.refl _ _ | exact Agree.mix _ _ _ | refine Agree.upd rfl ?_ | refine Agree.mix2 rfl ?_)), g - 1, by omega, q + 1, by omega, rfl, H.drop (List.sublist_cons_self _ _)⟩
      rw [if_neg (by rw [hkq, hc22]; simp)] at hnq
      have hFb : F ≤ 65536 * m := by
        rw [← hF]
        exact farTo_le hnr (fun v hv => (hsz v hv).1) m (Nat.le_refl _)
      refine WP.region ?_
      obtain ⟨_, _, e1, hpc⟩ := onesOwn H 3 rfl q (by omega)
      cases e1
      rw [hmq] at hpc
      refine OPS.val rfl rfl rfl (Ev.mvS rfl) ?_
      refine OPS.val rfl rfl rfl (Ev.mvI rfl) ?_
      refine OPS.val rfl rfl rfl ((by exact Ev.indexAddr1 (el_run rfl) (size_run rfl) rfl rfl rfl (by omega))) ?_
      refine OPS.val rfl rfl rfl (Ev.load1 (agg_run rfl) rfl (by assumption)) ?_
      refine OPS.val rfl rfl rfl (Ev.mvI rfl) ?_
      refine OPS.val rfl rfl rfl (Ev.add rfl rfl (by unfold fits; omega)) ?_
      refine OPS.val rfl rfl rfl ((by exact Ev.indexAddr1 (el_run rfl) (size_run rfl) rfl rfl rfl (by omega))) ?_
      have hpu : putL ((mixL (newL sts dist F pots) pots q).map I) (0 + q) [I (pots[q] + F)] = (mixL (newL sts dist F pots) pots (q + 1)).map I := by rw [Nat.zero_add, putL_ones, ← hnq, hms]
      refine OPS.store (vs := [I (pots[q] + F)]) 3 _ rfl rfl rfl (size_run rfl) rfl (cI rfl) rfl rfl H rfl (by simp only [List.length_map, hml]; omega) ?_
      clear H; intro w H
      simp only [List.set_cons_zero, List.set_cons_succ] at H
      rw [hpu] at H
      refine OPS.nil ?_
      refine WP.region ?_
      refine OPS.val rfl rfl rfl (Ev.add rfl rfl (by unfold fits; omega)) ?_
      refine OPS.val rfl rfl rfl (Ev.mvI rfl) ?_
      refine OPS.nil ?_
      exact ⟨(by repeat (first | exact Agree.refl _ _ | exact Agree.mix _ _ _ | refine Agree.upd rfl ?_ | refine Agree.mix2 rfl ?_)), g - 1, by omega, q + 1, by omega, rfl, H.drop (List.sublist_cons_self _ _)⟩
    have hqm2 : q = m := by simp at hc20; omega
    have hma : mixL (newL sts dist F pots) pots m = newL sts dist F pots := by
      have h := mixL_all hnl
      rw [show (newL sts dist F pots).length = m by omega] at h
      exact h
    rw [hqm2, hma] at H
    have htk : kn sts d = true := by
      cases hk : kn sts d with
      | true => rfl
      | false =>
        have hmx := near_isMax hnr hN.nodes hE.s1 hfl hk
        have := IsMax.unique hN.nodes ⟨by omega, by have := hE.s1; omega⟩ hmax hmx
        omega
    obtain ⟨ks, hkl, hP⟩ := path_of (hnr.tree (st := ⟨sts, dist, [], 0, none, 0, []⟩)) m d hE.d1 htk (hnr.rkb d hE.d1 htk).2
    obtain ⟨m1, m2, m3⟩ := pushMin_spec sts ks left hlp fun x hx => by obtain ⟨p, _, hEd⟩ := hP.edge x hx; exact hEd.room_pos
    have hfl2 := push_isFlow (by omega) hE.ne hP m3 hfl
    have hop2 := push_opt hnr hop hN.nodes hpl hol hF1 hP htk (pushMin sts ks left)
    have hgS : gS ≠ g51 := by have := H.nodup; simp at this; exact fun he => by subst he; simp at this
    refine WP.exit ?_
    refine XB.hit ?_
    refine WP.region ?_
    refine OPS.val rfl rfl rfl (Ev.mvI rfl) ?_
    refine OPS.val rfl rfl rfl ((by exact Ev.loadO 0 H rfl (agg_run rfl) (size_run rfl) (by rfl) rfl)) ?_
    refine OPS.val rfl rfl rfl (Ev.mvS rfl) ?_
    refine OPS.val rfl rfl rfl (Ev.mvI rfl) ?_
    refine OPS.val rfl rfl rfl (Ev.mvI rfl) ?_
    refine OPS.val rfl rfl rfl (Ev.mvI rfl) ?_
    have hpu := flowPush g51 A (some ⟨gS, 0, none⟩) l.length cap l.length m m s d left s d rfl rfl sts on ks w (rowsOwn' stepCells_len H 5 rfl) (fun _ b o he => by cases he; simpa using hgS) (hP.chain hsl hol) (by omega) (by omega) (fun i h => by have := hob i h; omega) (H.reidx (L' := [⟨g51, 3, on.map I⟩]) [1] (by decide) rfl |>.restart (List.Sublist.refl _))
    rw [hol, hsl] at hpu
    refine OPS.call (d := some 115) rfl rfl rfl (EvC.func (fun_run rfl)) (hpu) ?_
    rintro _ w ⟨rfl, Hc⟩
    refine ⟨_, rfl, ?_⟩
    replace H := SH.call (L1 := [⟨g12, 111, [I m, .slice A l.length cap, .slice (some ⟨g51, 0, none⟩) l.length l.length]⟩, ⟨g55, 3, (newL sts dist F pots).map I⟩, ⟨g8, 71, [I 0, I 0, .slice none 0 0, .slice none 0 0]⟩, ⟨g4, 76, [I m, .slice A l.length cap]⟩]) (Lv := [⟨g51, 3, on.map I⟩]) (H.reidx [0, 2, 3, 4, 1] (by decide) rfl) Hc
    clear Hc hpu
    refine OPS.val rfl rfl rfl (Ev.sub rfl rfl (by unfold fits; omega)) ?_
    refine OPS.val rfl rfl rfl (Ev.asI rfl) ?_
    refine OPS.nil ?_
    exact ⟨(by repeat (first | exact Agree.refl _ _ | exact Agree.mix _ _ _ | refine Agree.upd rfl ?_ | refine Agree.mix2 rfl ?_)), k - (pushMin sts ks left).toNat, by omega, left - pushMin sts ks left, pushOn sts ks (pushMin sts ks left) on, newL sts dist F pots, by rw [pushOn_length]; exact hol, rfl, by omega, by omega, by omega, by rw [show amt - (left - pushMin sts ks left) = amt - left + pushMin sts ks left by omega]; exact hfl2, hop2, hpi2, H.reidx [0, 4, 1, 2, 3] (by decide) rfl⟩
  have hl00 : left = 0 := by simp at hc10; omega
  rw [hl00, Int.sub_zero] at hfl
  refine WP.exit ?_
  refine XB.hit ?_
  refine WP.seq ?_
  have Hf := H
  replace H := H.reidx (L' := [⟨g12, 111, [I m, .slice A l.length cap, .slice (some ⟨g51, 0, none⟩) l.length l.length]⟩, ⟨g51, 3, on.map I⟩, ⟨g55, 3, pots.map I⟩, ⟨g4, 76, [I m, .slice A l.length cap]⟩]) [0, 1, 2, 4] (by decide) rfl
  refine WP.rheldC [9, 117, 118, 119, 120, 121, 122, 123, 124, 125] (fun u w' => u 9 = I 0 ∧ SH w0 [] w' [⟨g8, 71, [I amt, I (costOf l on), .slice (some ⟨g51, 0, none⟩) l.length l.length, .slice (some ⟨g55, 0, none⟩) m m]⟩, ⟨g51, 3, on.map I⟩, ⟨g55, 3, pots.map I⟩]) mixed H ?_ ?_
  · clear H; intro w hbw27 H
    refine OPH.take 0 rfl rfl rfl rfl (by kernel_rfl) (by kernel_rfl) (by kernel_rfl) rfl (by exact H) (fun w H => Ev.mvI rfl) ?_
    refine OPH.take 1 rfl rfl rfl rfl (by kernel_rfl) (by kernel_rfl) (by kernel_rfl) rfl (by exact H) (fun w H => (by exact Ev.loadO 3 H rfl (agg_run rfl) (size_run rfl) (by rfl) rfl)) ?_
    refine OPH.take 2 rfl rfl rfl rfl (by kernel_rfl) (by kernel_rfl) (by kernel_rfl) rfl (by exact H) (fun w H => Ev.fieldAddr (fld_run rfl) rfl) ?_
    refine OPH.take 3 rfl rfl rfl rfl (by kernel_rfl) (by kernel_rfl) (by kernel_rfl) rfl (by exact H) (fun w H => Ev.load1 (agg_run rfl) rfl (by exact H.ldL 0 rfl _ rfl)) ?_
    refine OPH.take 5 rfl rfl rfl rfl (by kernel_rfl) (by kernel_rfl) (by kernel_rfl) rfl (by exact H) (fun w H => Ev.fieldAddr (fld_run rfl) rfl) ?_
    refine OPH.take 6 rfl rfl rfl rfl (by kernel_rfl) (by kernel_rfl) (by kernel_rfl) rfl (by exact H) (fun w H => Ev.load1 (agg_run rfl) rfl (by exact H.ldL 0 rfl _ rfl)) ?_
    refine OPH.take 7 rfl rfl rfl rfl (by kernel_rfl) (by kernel_rfl) (by kernel_rfl) rfl (by exact H) (fun w H => Ev.mvS rfl) ?_
    refine OPH.all [4] (by kernel_rfl) (by simp) rfl ?_
    intro i hi; simp only [List.mem_cons, List.not_mem_nil, or_false] at hi
    rcases hi with rfl
    · refine ⟨_, rfl, ?_⟩
      try replace Hf := Hf.toBelow hbw27
      have hpr := flowPrice m A (some ⟨g51, 0, none⟩) l on cap l.length w hN hfl.v (hz.sh H) (onesOwn H 1 rfl)
      rw [hol] at hpr
      refine OPS.call (d := some 121) rfl rfl rfl (EvC.func (fun_run rfl)) hpr ?_
      rintro _ w ⟨rfl, hb⟩
      refine ⟨_, rfl, ?_⟩
      replace H := H.toBelow hb; replace Hf := Hf.toBelow hb; clear hb
      refine OPS.nil ?_
      refine ⟨(by exact H), ?_⟩
      refine OPH.take 8 rfl rfl rfl rfl (by kernel_rfl) (by kernel_rfl) (by kernel_rfl) rfl (by exact H) (fun w H => Ev.build (bld_71_0_1_2_3 rfl rfl rfl rfl)) ?_
      refine OPH.all [9] (by kernel_rfl) (by simp) rfl ?_
      intro i hi; simp only [List.mem_cons, List.not_mem_nil, or_false] at hi
      rcases hi with rfl
      · refine ⟨_, rfl, ?_⟩
        refine OPS.store (vs := [I amt, I (costOf l on), .slice (some ⟨g51, 0, none⟩) l.length l.length, .slice (some ⟨g55, 0, none⟩) m m]) 3 _ rfl rfl rfl (size_run rfl) rfl (cA rfl) rfl rfl Hf rfl (by simp) ?_
        clear H Hf; intro w Hf
        simp only [List.set_cons_zero, List.set_cons_succ, putL] at Hf
        have H := Hf.reidx (L' := [⟨g12, 111, [I m, .slice A l.length cap, .slice (some ⟨g51, 0, none⟩) l.length l.length]⟩, ⟨g51, 3, on.map I⟩, ⟨g55, 3, pots.map I⟩, ⟨g4, 76, [I m, .slice A l.length cap]⟩]) [0, 1, 2, 4] (by decide) rfl
        refine OPS.nil ?_
        refine ⟨(by exact H), ?_⟩
        refine OPH.take 10 rfl rfl rfl rfl (by kernel_rfl) (by kernel_rfl) (by kernel_rfl) rfl (by exact H) (fun w H => Ev.asI rfl) ?_
        refine OPH.done (by kernel_rfl) ?_
        exact ⟨(by repeat (first | exact Agree.refl _ _ | exact Agree.mix _ _ _ | refine Agree.upd rfl ?_ | refine Agree.mix2 rfl ?_)), rfl, Hf.reidx [3, 1, 2] (by decide) rfl⟩
  clear H
  rintro u w ⟨h9, H⟩
  refine WP.know (t := 9) h9 ?_
  refine WP.ret ⟨[_, _], ⟨(by exact resCellA 0 H rfl (agg_run rfl) (size_run rfl) (by rfl) rfl), rfl, trivial⟩, ?_⟩
  refine ⟨most, ⟨rfl, hM1, hM2⟩, .inr ⟨hce, m, s, d, g51, g55, on, pots, hE, ⟨hfl, hop, hpl, hpi.zero, fun v hv => ⟨(hpi.bd v hv).1, hpi.le hv⟩⟩, ?_, H.drop (List.sublist_cons_self _ _)⟩⟩
  rw [hol, hpl]; rfl
end Go.Proofs.Ytgjfjbphngamgaa.Flo
