/-
  Walks: the reference's next, Hide, Same.
-/
import Derived.Test.YtmkgfgnpgoegcaaT21
set_option linter.all false
namespace Go.Proofs.Ytmkgfgnpgoegcaa
open Go Go.W Go.RowKit

/-- the lowest free cell of a kind from m on -/
def LowAt (c : Int) (i : Nat) (hid : List Bool) (j m : Nat) (x : Int) : Prop :=
  (x = -1 ∧ ∀ k, m ≤ k → k < hid.length → ¬ Free c i hid j k) ∨ ∃ k : Nat, x = k ∧ m ≤ k ∧ k < hid.length ∧ Free c i hid j k ∧ ∀ k', m ≤ k' → k' < k → ¬ Free c i hid j k'
theorem LowAt.bd {c : Int} {i : Nat} {hid : List Bool} {j m : Nat} {x : Int} (h : LowAt c i hid j m x) : -1 ≤ x ∧ x < hid.length := by
  rcases h with ⟨rfl, _⟩ | ⟨k, rfl, _, h, _⟩ <;> omega
theorem LowAt.hit {c : Int} {i : Nat} {hid : List Bool} {j m : Nat} (hm : m < hid.length) (hf : Free c i hid j m) : LowAt c i hid j m m :=
  .inr ⟨m, rfl, Nat.le_refl _, hm, hf, fun k' h1 h2 => absurd h2 (by omega)⟩
theorem LowAt.miss {c : Int} {i : Nat} {hid : List Bool} {j m : Nat} {x : Int} (h : LowAt c i hid j (m + 1) x) (hf : ¬ Free c i hid j m) : LowAt c i hid j m x := by
  rcases h with ⟨rfl, h⟩ | ⟨k, rfl, h1, h2, h3, h4⟩
  · refine .inl ⟨rfl, fun k hk hk2 => ?_⟩
    by_cases e : k = m
    · subst e; exact hf
    · exact h k (by omega) hk2
  · refine .inr ⟨k, rfl, by omega, h2, h3, fun k' hk hk2 => ?_⟩
    by_cases e : k' = m
    · subst e; exact hf
    · exact h4 k' (by omega) hk2
theorem LowAt.none {c : Int} {i : Nat} {hid : List Bool} {j : Nat} {x : Int} (h : LowAt c i hid j 0 x) (hx : ¬ 0 ≤ x) : ∀ k, k < hid.length → ¬ Free c i hid j k := by
  rcases h with ⟨rfl, h⟩ | ⟨k, rfl, _⟩
  · exact fun k hk => h k (by omega) hk
  · omega
theorem LowAt.ret {c : Int} {i : Nat} {hid : List Bool} {j : Nat} {x : Int} (h : LowAt c i hid j 0 x) (hx : 0 ≤ x) (hj : j < 3) (hno : ∀ j', j' < j → ∀ k, k < hid.length → ¬ Free c i hid j' k) : NextRet c i hid x := by
  rcases h with ⟨rfl, h⟩ | ⟨k, rfl, _, h2, h3, h4⟩
  · omega
  · exact .inr ⟨j, k, rfl, hj, h2, h3, fun k' hk' => h4 k' (by omega) hk', hno⟩

set_option maxHeartbeats 1000000 in
theorem refNext (r c : Int) (i : Nat) (A B : Option Addr) (zs : List Int) (hid : List Bool) (cap cap2 : Nat) (w0 : World) (hT : TblOk r c zs) (hh : hid.length = zs.length) (hi : i < zs.length) (hb : BoolsAt w0 B hid) :
    Calls Try.prog 33 #[.agg #[I r, I c, .slice A zs.length cap], .slice B hid.length cap2, I i] w0
      fun e w' => ∃ x : Int, e = .returned (I x) ∧ NextRet c i hid x ∧ Below w0.heap.size w0 w' := by
  have H := SH.refl w0
  have hbd := mul_bd hT.rng
  have hlen := hT.len
  obtain ⟨r1, r2, c1, c2⟩ := hT.rng
  refine Calls.ofWP Try.func33 rfl Try.results33 Try.ntmps33 rfl ?_
  refine WP.seq ?_
  refine WP.region ?_
  refine OPS.box rfl rfl rfl rfl (cA rfl) H ?_
  clear H; intro g3 w H
  refine OPS.val rfl rfl rfl (Ev.asI rfl) ?_
  refine OPS.nil ?_
  refine WP.seq ?_
  refine WP.region ?_
  refine OPS.val rfl rfl rfl (Ev.asI rfl) ?_
  refine OPS.val rfl rfl rfl (Ev.asI rfl) ?_
  refine OPS.val rfl rfl rfl (Ev.asI rfl) ?_
  refine OPS.nil ?_
  refine WP.seq ?_
  refine WP.seq ?_
  refine WP.region ?_
  refine OPS.val rfl rfl rfl (Ev.mvS rfl) ?_
  refine OPS.val rfl rfl rfl (Ev.len (el_run rfl) rfl) ?_
  refine OPS.val rfl rfl rfl (Ev.sub rfl rfl (by unfold fits; omega)) ?_
  refine OPS.val rfl rfl rfl (Ev.asI rfl) ?_
  refine OPS.nil ?_
  refine WP.block ?_
  refine WP.loop [7, 8, 9, 10, 14, 15, 16, 17, 18, 19, 20, 21, 22, 23, 24, 25, 26, 27, 28, 29, 30, 31, 32, 33, 34, 35, 36, 37, 38, 39, 40, 41, 42] (fun g e w' => ∃ x y z : Int, g ≤ hid.length ∧ e 10 = I ((g : Int) - 1) ∧ e 7 = I x ∧ e 8 = I y ∧ e 9 = I z ∧ LowAt c i hid 0 g x ∧ LowAt c i hid 1 g y ∧ LowAt c i hid 2 g z ∧ SH w0 [] w' [⟨g3, 24, [I r, I c, .slice A zs.length cap]⟩]) (hid.length) (⟨-1, -1, -1, by omega, rfl, rfl, rfl, rfl, .inl ⟨rfl, fun k h1 h2 => absurd h2 (by omega)⟩, .inl ⟨rfl, fun k h1 h2 => absurd h2 (by omega)⟩, .inl ⟨rfl, fun k h1 h2 => absurd h2 (by omega)⟩, H⟩) ?_
  clear H
  rintro g u w ⟨x, y, z, hg, h10, h7, h8, h9, hx, hy, hz, H⟩
  refine WP.know (t := 10) h10 (WP.know (t := 7) h7 (WP.know (t := 8) h8 (WP.know (t := 9) h9 ?_)))
  refine WP.seq ?_
  refine WP.seq ?_
  refine WP.region ?_
  refine OPS.val rfl rfl rfl (Ev.mvI rfl) ?_
  refine OPS.val rfl rfl rfl (Ev.geq rfl rfl) ?_
  refine OPS.nil ?_
  refine WP.cond rfl (fun hc3 => ?_) (fun hc3 => ?_)
  · obtain ⟨m, rfl⟩ : ∃ m, g = m + 1 := ⟨g - 1, by simp at hc3; omega⟩
    refine WP.know (t := 10) (v := I (m : Int)) (show I (((m + 1 : Nat) : Int) - 1) = _ by congr 1; omega) ?_
    have hlm : m < hid.length := by omega
    obtain ⟨b2, o2, rfl, hd⟩ := hb m hlm
    have hq1 : 0 ≤ (m : Int) / c ∧ (m : Int) / c ≤ m := ⟨Int.ediv_nonneg (by omega) (by omega), Int.ediv_le_self _ (by omega)⟩
    have hq2 : 0 ≤ (i : Int) / c ∧ (i : Int) / c ≤ i := ⟨Int.ediv_nonneg (by omega) (by omega), Int.ediv_le_self _ (by omega)⟩
    have nf : hid[m] = true → ∀ j, ¬ Free c i hid j m := fun h j f => by
      have h2 := f.1
      simp [hlm] at h2; rw [h] at h2; cases h2
    have hf : hid[m] = false → ∀ j, fitK c i j m = true → Free c i hid j m := fun h j h2 => ⟨by simp [hlm]; exact h, h2⟩
    have k0 : ∀ b, decide ((m : Int) / c = (i : Int) / c) = b → fitK c i 0 m = b := fun b h => h
    have k1 : ∀ b, decide ((m : Int) % c = (i : Int) % c) = b → fitK c i 1 m = b := fun b h => h
    have nk : ∀ j, fitK c i j m = false → ¬ Free c i hid j m := fun j h f => by rw [f.2] at h; cases h
    refine WP.skip ?_
    refine WP.seq ?_
    refine WP.block ?_
    refine WP.seq ?_
    refine WP.seq ?_
    refine WP.region ?_
    refine OPS.val rfl rfl rfl (Ev.mvS rfl) ?_
    refine OPS.val rfl rfl rfl (Ev.mvI rfl) ?_
    refine OPS.val rfl rfl rfl ((by first | exact Ev.indexAddr1 (el_run rfl) (size_run rfl) rfl rfl rfl (by omega) | exact Ev.indexAddr (el_run rfl) (size_run rfl) rfl rfl rfl (by omega))) ?_
    refine OPS.val rfl rfl rfl (Ev.load1 (agg_run rfl) rfl (by first | exact H.ldL 0 rfl _ rfl | exact H.ldL 1 rfl _ rfl | exact H.ldL 2 rfl _ rfl | exact H.ldL 3 rfl _ rfl | exact H.ldL 4 rfl _ rfl | exact H.ldL 5 rfl _ rfl | exact H.ldL 6 rfl _ rfl | exact H.ldL 7 rfl _ rfl | exact H.ld0 (by assumption) | assumption | exact H.ldS (by assumption) (by assumption))) ?_
    refine OPS.nil ?_
    refine WP.cond rfl (fun hc5 => ?_) (fun hc5 => ?_)
    · refine WP.exit ?_
      refine XB.hit ?_
      refine WP.region ?_
      refine OPS.val rfl rfl rfl (Ev.mvI rfl) ?_
      refine OPS.val rfl rfl rfl (Ev.sub rfl rfl (by unfold fits; omega)) ?_
      refine OPS.val rfl rfl rfl (Ev.asI rfl) ?_
      refine OPS.nil ?_
      first
      | exact ⟨(by repeat (first | exact Agree.refl _ _ | exact Agree.mix _ _ _ | refine Agree.upd rfl ?_ | refine Agree.mix2 rfl ?_)), m, by omega, x, y, z, by omega, rfl, rfl, rfl, rfl, hx.miss (nf hc5 _), hy.miss (nf hc5 _), hz.miss (nf hc5 _), H⟩
      | exact ⟨(by repeat (first | exact Agree.refl _ _ | exact Agree.mix _ _ _ | refine Agree.upd rfl ?_ | refine Agree.mix2 rfl ?_)), m, by omega, m, m, m, by omega, rfl, rfl, rfl, rfl, .hit hlm (hf hc5 _ (k0 _ hc7)), .hit hlm (hf hc5 _ (k1 _ hc9)), .hit hlm (hf hc5 _ rfl), H⟩
      | exact ⟨(by repeat (first | exact Agree.refl _ _ | exact Agree.mix _ _ _ | refine Agree.upd rfl ?_ | refine Agree.mix2 rfl ?_)), m, by omega, m, y, m, by omega, rfl, rfl, rfl, rfl, .hit hlm (hf hc5 _ (k0 _ hc7)), hy.miss (nk _ (k1 _ hc9)), .hit hlm (hf hc5 _ rfl), H⟩
      | exact ⟨(by repeat (first | exact Agree.refl _ _ | exact Agree.mix _ _ _ | refine Agree.upd rfl ?_ | refine Agree.mix2 rfl ?_)), m, by omega, x, m, m, by omega, rfl, rfl, rfl, rfl, hx.miss (nk _ (k0 _ hc7)), .hit hlm (hf hc5 _ (k1 _ hc9)), .hit hlm (hf hc5 _ rfl), H⟩
      | exact ⟨(by repeat (first | exact Agree.refl _ _ | exact Agree.mix _ _ _ | refine Agree.upd rfl ?_ | refine Agree.mix2 rfl ?_)), m, by omega, x, y, m, by omega, rfl, rfl, rfl, rfl, hx.miss (nk _ (k0 _ hc7)), hy.miss (nk _ (k1 _ hc9)), .hit hlm (hf hc5 _ rfl), H⟩
    refine WP.skip ?_
    refine WP.seq ?_
    refine WP.region ?_
    refine OPS.val rfl rfl rfl (Ev.mvI rfl) ?_
    refine OPS.val rfl rfl rfl (Ev.asI rfl) ?_
    refine OPS.nil ?_
    refine WP.seq ?_
    refine WP.seq ?_
    refine WP.rstill mixed (by kernel_rfl) H ?_
    clear H; intro w hbw7 H
    refine OPS.val rfl rfl rfl (Ev.mvI rfl) ?_
    refine OPS.val rfl rfl rfl (Ev.fieldAddr (fld_run rfl) rfl) ?_
    refine OPS.val rfl rfl rfl (Ev.load1 (agg_run rfl) rfl (by first | exact H.ldL 0 rfl _ rfl | exact H.ldL 1 rfl _ rfl | exact H.ldL 2 rfl _ rfl | exact H.ldL 3 rfl _ rfl | exact H.ldL 4 rfl _ rfl | exact H.ldL 5 rfl _ rfl | exact H.ldL 6 rfl _ rfl | exact H.ldL 7 rfl _ rfl | exact H.ld0 (by assumption) | assumption | exact H.ldS (by assumption) (by assumption))) ?_
    refine OPS.val rfl rfl rfl (Ev.quo rfl rfl (by omega) (by omega) (by omega)) ?_
    refine OPS.val rfl rfl rfl (Ev.mvI rfl) ?_
    refine OPS.val rfl rfl rfl (Ev.fieldAddr (fld_run rfl) rfl) ?_
    refine OPS.val rfl rfl rfl (Ev.load1 (agg_run rfl) rfl (by first | exact H.ldL 0 rfl _ rfl | exact H.ldL 1 rfl _ rfl | exact H.ldL 2 rfl _ rfl | exact H.ldL 3 rfl _ rfl | exact H.ldL 4 rfl _ rfl | exact H.ldL 5 rfl _ rfl | exact H.ldL 6 rfl _ rfl | exact H.ldL 7 rfl _ rfl | exact H.ld0 (by assumption) | assumption | exact H.ldS (by assumption) (by assumption))) ?_
    refine OPS.val rfl rfl rfl (Ev.quo rfl rfl (by omega) (by omega) (by omega)) ?_
    refine OPS.val rfl rfl rfl (Ev.eql rfl rfl) ?_
    refine OPS.nil_s ?_
    refine WP.cond rfl (fun hc7 => ?_) (fun hc7 => ?_)
    · refine WP.region ?_
      refine OPS.val rfl rfl rfl (Ev.mvI rfl) ?_
      refine OPS.val rfl rfl rfl (Ev.asI rfl) ?_
      refine OPS.nil ?_
      refine WP.seq ?_
      refine WP.rstill mixed (by kernel_rfl) H ?_
      clear H; intro w hbw9 H
      refine OPS.val rfl rfl rfl (Ev.mvI rfl) ?_
      refine OPS.val rfl rfl rfl (Ev.fieldAddr (fld_run rfl) rfl) ?_
      refine OPS.val rfl rfl rfl (Ev.load1 (agg_run rfl) rfl (by first | exact H.ldL 0 rfl _ rfl | exact H.ldL 1 rfl _ rfl | exact H.ldL 2 rfl _ rfl | exact H.ldL 3 rfl _ rfl | exact H.ldL 4 rfl _ rfl | exact H.ldL 5 rfl _ rfl | exact H.ldL 6 rfl _ rfl | exact H.ldL 7 rfl _ rfl | exact H.ld0 (by assumption) | assumption | exact H.ldS (by assumption) (by assumption))) ?_
      refine OPS.val rfl rfl rfl (Ev.rem rfl rfl (by omega) (by omega)) ?_
      refine OPS.val rfl rfl rfl (Ev.mvI rfl) ?_
      refine OPS.val rfl rfl rfl (Ev.fieldAddr (fld_run rfl) rfl) ?_
      refine OPS.val rfl rfl rfl (Ev.load1 (agg_run rfl) rfl (by first | exact H.ldL 0 rfl _ rfl | exact H.ldL 1 rfl _ rfl | exact H.ldL 2 rfl _ rfl | exact H.ldL 3 rfl _ rfl | exact H.ldL 4 rfl _ rfl | exact H.ldL 5 rfl _ rfl | exact H.ldL 6 rfl _ rfl | exact H.ldL 7 rfl _ rfl | exact H.ld0 (by assumption) | assumption | exact H.ldS (by assumption) (by assumption))) ?_
      refine OPS.val rfl rfl rfl (Ev.rem rfl rfl (by omega) (by omega)) ?_
      refine OPS.val rfl rfl rfl (Ev.eql rfl rfl) ?_
      refine OPS.nil_s ?_
      refine WP.cond rfl (fun hc9 => ?_) (fun hc9 => ?_)
      · refine WP.region ?_
        refine OPS.val rfl rfl rfl (Ev.mvI rfl) ?_
        refine OPS.val rfl rfl rfl (Ev.asI rfl) ?_
        refine OPS.nil ?_
        refine WP.region ?_
        refine OPS.val rfl rfl rfl (Ev.mvI rfl) ?_
        refine OPS.val rfl rfl rfl (Ev.sub rfl rfl (by unfold fits; omega)) ?_
        refine OPS.val rfl rfl rfl (Ev.asI rfl) ?_
        refine OPS.nil ?_
        first
        | exact ⟨(by repeat (first | exact Agree.refl _ _ | exact Agree.mix _ _ _ | refine Agree.upd rfl ?_ | refine Agree.mix2 rfl ?_)), m, by omega, x, y, z, by omega, rfl, rfl, rfl, rfl, hx.miss (nf hc5 _), hy.miss (nf hc5 _), hz.miss (nf hc5 _), H⟩
        | exact ⟨(by repeat (first | exact Agree.refl _ _ | exact Agree.mix _ _ _ | refine Agree.upd rfl ?_ | refine Agree.mix2 rfl ?_)), m, by omega, m, m, m, by omega, rfl, rfl, rfl, rfl, .hit hlm (hf hc5 _ (k0 _ hc7)), .hit hlm (hf hc5 _ (k1 _ hc9)), .hit hlm (hf hc5 _ rfl), H⟩
        | exact ⟨(by repeat (first | exact Agree.refl _ _ | exact Agree.mix _ _ _ | refine Agree.upd rfl ?_ | refine Agree.mix2 rfl ?_)), m, by omega, m, y, m, by omega, rfl, rfl, rfl, rfl, .hit hlm (hf hc5 _ (k0 _ hc7)), hy.miss (nk _ (k1 _ hc9)), .hit hlm (hf hc5 _ rfl), H⟩
        | exact ⟨(by repeat (first | exact Agree.refl _ _ | exact Agree.mix _ _ _ | refine Agree.upd rfl ?_ | refine Agree.mix2 rfl ?_)), m, by omega, x, m, m, by omega, rfl, rfl, rfl, rfl, hx.miss (nk _ (k0 _ hc7)), .hit hlm (hf hc5 _ (k1 _ hc9)), .hit hlm (hf hc5 _ rfl), H⟩
        | exact ⟨(by repeat (first | exact Agree.refl _ _ | exact Agree.mix _ _ _ | refine Agree.upd rfl ?_ | refine Agree.mix2 rfl ?_)), m, by omega, x, y, m, by omega, rfl, rfl, rfl, rfl, hx.miss (nk _ (k0 _ hc7)), hy.miss (nk _ (k1 _ hc9)), .hit hlm (hf hc5 _ rfl), H⟩
      refine WP.skip ?_
      refine WP.region ?_
      refine OPS.val rfl rfl rfl (Ev.mvI rfl) ?_
      refine OPS.val rfl rfl rfl (Ev.sub rfl rfl (by unfold fits; omega)) ?_
      refine OPS.val rfl rfl rfl (Ev.asI rfl) ?_
      refine OPS.nil ?_
      first
      | exact ⟨(by repeat (first | exact Agree.refl _ _ | exact Agree.mix _ _ _ | refine Agree.upd rfl ?_ | refine Agree.mix2 rfl ?_)), m, by omega, x, y, z, by omega, rfl, rfl, rfl, rfl, hx.miss (nf hc5 _), hy.miss (nf hc5 _), hz.miss (nf hc5 _), H⟩
      | exact ⟨(by repeat (first | exact Agree.refl _ _ | exact Agree.mix _ _ _ | refine Agree.upd rfl ?_ | refine Agree.mix2 rfl ?_)), m, by omega, m, m, m, by omega, rfl, rfl, rfl, rfl, .hit hlm (hf hc5 _ (k0 _ hc7)), .hit hlm (hf hc5 _ (k1 _ hc9)), .hit hlm (hf hc5 _ rfl), H⟩
      | exact ⟨(by repeat (first | exact Agree.refl _ _ | exact Agree.mix _ _ _ | refine Agree.upd rfl ?_ | refine Agree.mix2 rfl ?_)), m, by omega, m, y, m, by omega, rfl, rfl, rfl, rfl, .hit hlm (hf hc5 _ (k0 _ hc7)), hy.miss (nk _ (k1 _ hc9)), .hit hlm (hf hc5 _ rfl), H⟩
      | exact ⟨(by repeat (first | exact Agree.refl _ _ | exact Agree.mix _ _ _ | refine Agree.upd rfl ?_ | refine Agree.mix2 rfl ?_)), m, by omega, x, m, m, by omega, rfl, rfl, rfl, rfl, hx.miss (nk _ (k0 _ hc7)), .hit hlm (hf hc5 _ (k1 _ hc9)), .hit hlm (hf hc5 _ rfl), H⟩
      | exact ⟨(by repeat (first | exact Agree.refl _ _ | exact Agree.mix _ _ _ | refine Agree.upd rfl ?_ | refine Agree.mix2 rfl ?_)), m, by omega, x, y, m, by omega, rfl, rfl, rfl, rfl, hx.miss (nk _ (k0 _ hc7)), hy.miss (nk _ (k1 _ hc9)), .hit hlm (hf hc5 _ rfl), H⟩
    refine WP.skip ?_
    refine WP.seq ?_
    refine WP.rstill mixed (by kernel_rfl) H ?_
    clear H; intro w hbw9 H
    refine OPS.val rfl rfl rfl (Ev.mvI rfl) ?_
    refine OPS.val rfl rfl rfl (Ev.fieldAddr (fld_run rfl) rfl) ?_
    refine OPS.val rfl rfl rfl (Ev.load1 (agg_run rfl) rfl (by first | exact H.ldL 0 rfl _ rfl | exact H.ldL 1 rfl _ rfl | exact H.ldL 2 rfl _ rfl | exact H.ldL 3 rfl _ rfl | exact H.ldL 4 rfl _ rfl | exact H.ldL 5 rfl _ rfl | exact H.ldL 6 rfl _ rfl | exact H.ldL 7 rfl _ rfl | exact H.ld0 (by assumption) | assumption | exact H.ldS (by assumption) (by assumption))) ?_
    refine OPS.val rfl rfl rfl (Ev.rem rfl rfl (by omega) (by omega)) ?_
    refine OPS.val rfl rfl rfl (Ev.mvI rfl) ?_
    refine OPS.val rfl rfl rfl (Ev.fieldAddr (fld_run rfl) rfl) ?_
    refine OPS.val rfl rfl rfl (Ev.load1 (agg_run rfl) rfl (by first | exact H.ldL 0 rfl _ rfl | exact H.ldL 1 rfl _ rfl | exact H.ldL 2 rfl _ rfl | exact H.ldL 3 rfl _ rfl | exact H.ldL 4 rfl _ rfl | exact H.ldL 5 rfl _ rfl | exact H.ldL 6 rfl _ rfl | exact H.ldL 7 rfl _ rfl | exact H.ld0 (by assumption) | assumption | exact H.ldS (by assumption) (by assumption))) ?_
    refine OPS.val rfl rfl rfl (Ev.rem rfl rfl (by omega) (by omega)) ?_
    refine OPS.val rfl rfl rfl (Ev.eql rfl rfl) ?_
    refine OPS.nil_s ?_
    refine WP.cond rfl (fun hc9 => ?_) (fun hc9 => ?_)
    · refine WP.region ?_
      refine OPS.val rfl rfl rfl (Ev.mvI rfl) ?_
      refine OPS.val rfl rfl rfl (Ev.asI rfl) ?_
      refine OPS.nil ?_
      refine WP.region ?_
      refine OPS.val rfl rfl rfl (Ev.mvI rfl) ?_
      refine OPS.val rfl rfl rfl (Ev.sub rfl rfl (by unfold fits; omega)) ?_
      refine OPS.val rfl rfl rfl (Ev.asI rfl) ?_
      refine OPS.nil ?_
      first
      | exact ⟨(by repeat (first | exact Agree.refl _ _ | exact Agree.mix _ _ _ | refine Agree.upd rfl ?_ | refine Agree.mix2 rfl ?_)), m, by omega, x, y, z, by omega, rfl, rfl, rfl, rfl, hx.miss (nf hc5 _), hy.miss (nf hc5 _), hz.miss (nf hc5 _), H⟩
      | exact ⟨(by repeat (first | exact Agree.refl _ _ | exact Agree.mix _ _ _ | refine Agree.upd rfl ?_ | refine Agree.mix2 rfl ?_)), m, by omega, m, m, m, by omega, rfl, rfl, rfl, rfl, .hit hlm (hf hc5 _ (k0 _ hc7)), .hit hlm (hf hc5 _ (k1 _ hc9)), .hit hlm (hf hc5 _ rfl), H⟩
      | exact ⟨(by repeat (first | exact Agree.refl _ _ | exact Agree.mix _ _ _ | refine Agree.upd rfl ?_ | refine Agree.mix2 rfl ?_)), m, by omega, m, y, m, by omega, rfl, rfl, rfl, rfl, .hit hlm (hf hc5 _ (k0 _ hc7)), hy.miss (nk _ (k1 _ hc9)), .hit hlm (hf hc5 _ rfl), H⟩
      | exact ⟨(by repeat (first | exact Agree.refl _ _ | exact Agree.mix _ _ _ | refine Agree.upd rfl ?_ | refine Agree.mix2 rfl ?_)), m, by omega, x, m, m, by omega, rfl, rfl, rfl, rfl, hx.miss (nk _ (k0 _ hc7)), .hit hlm (hf hc5 _ (k1 _ hc9)), .hit hlm (hf hc5 _ rfl), H⟩
      | exact ⟨(by repeat (first | exact Agree.refl _ _ | exact Agree.mix _ _ _ | refine Agree.upd rfl ?_ | refine Agree.mix2 rfl ?_)), m, by omega, x, y, m, by omega, rfl, rfl, rfl, rfl, hx.miss (nk _ (k0 _ hc7)), hy.miss (nk _ (k1 _ hc9)), .hit hlm (hf hc5 _ rfl), H⟩
    refine WP.skip ?_
    refine WP.region ?_
    refine OPS.val rfl rfl rfl (Ev.mvI rfl) ?_
    refine OPS.val rfl rfl rfl (Ev.sub rfl rfl (by unfold fits; omega)) ?_
    refine OPS.val rfl rfl rfl (Ev.asI rfl) ?_
    refine OPS.nil ?_
    first
    | exact ⟨(by repeat (first | exact Agree.refl _ _ | exact Agree.mix _ _ _ | refine Agree.upd rfl ?_ | refine Agree.mix2 rfl ?_)), m, by omega, x, y, z, by omega, rfl, rfl, rfl, rfl, hx.miss (nf hc5 _), hy.miss (nf hc5 _), hz.miss (nf hc5 _), H⟩
    | exact ⟨(by repeat (first | exact Agree.refl _ _ | exact Agree.mix _ _ _ | refine Agree.upd rfl ?_ | refine Agree.mix2 rfl ?_)), m, by omega, m, m, m, by omega, rfl, rfl, rfl, rfl, .hit hlm (hf hc5 _ (k0 _ hc7)), .hit hlm (hf hc5 _ (k1 _ hc9)), .hit hlm (hf hc5 _ rfl), H⟩
    | exact ⟨(by repeat (first | exact Agree.refl _ _ | exact Agree.mix _ _ _ | refine Agree.upd rfl ?_ | refine Agree.mix2 rfl ?_)), m, by omega, m, y, m, by omega, rfl, rfl, rfl, rfl, .hit hlm (hf hc5 _ (k0 _ hc7)), hy.miss (nk _ (k1 _ hc9)), .hit hlm (hf hc5 _ rfl), H⟩
    | exact ⟨(by repeat (first | exact Agree.refl _ _ | exact Agree.mix _ _ _ | refine Agree.upd rfl ?_ | refine Agree.mix2 rfl ?_)), m, by omega, x, m, m, by omega, rfl, rfl, rfl, rfl, hx.miss (nk _ (k0 _ hc7)), .hit hlm (hf hc5 _ (k1 _ hc9)), .hit hlm (hf hc5 _ rfl), H⟩
    | exact ⟨(by repeat (first | exact Agree.refl _ _ | exact Agree.mix _ _ _ | refine Agree.upd rfl ?_ | refine Agree.mix2 rfl ?_)), m, by omega, x, y, m, by omega, rfl, rfl, rfl, rfl, hx.miss (nk _ (k0 _ hc7)), hy.miss (nk _ (k1 _ hc9)), .hit hlm (hf hc5 _ rfl), H⟩
  obtain rfl : g = 0 := by simp at hc3; omega
  refine WP.exit ?_
  refine XB.hit ?_
  refine WP.seq ?_
  refine WP.seq ?_
  refine WP.region ?_
  refine OPS.val rfl rfl rfl (Ev.mvI rfl) ?_
  refine OPS.val rfl rfl rfl (Ev.geq rfl rfl) ?_
  refine OPS.nil ?_
  refine WP.cond rfl (fun hc11 => ?_) (fun hc11 => ?_)
  · refine WP.seq ?_
    refine WP.region ?_
    refine OPS.val rfl rfl rfl (Ev.mvI rfl) ?_
    refine OPS.val rfl rfl rfl (Ev.asI rfl) ?_
    refine OPS.nil ?_
    refine WP.ret ⟨_, rfl, ?_⟩
    exact ⟨x, rfl, hx.ret (by simpa using hc11) (by omega) (fun j' h => absurd h (by omega)), H.below⟩
  have n0 := hx.none (by simpa using hc11)
  refine WP.skip ?_
  refine WP.seq ?_
  refine WP.seq ?_
  refine WP.region ?_
  refine OPS.val rfl rfl rfl (Ev.mvI rfl) ?_
  refine OPS.val rfl rfl rfl (Ev.geq rfl rfl) ?_
  refine OPS.nil ?_
  refine WP.cond rfl (fun hc13 => ?_) (fun hc13 => ?_)
  · refine WP.seq ?_
    refine WP.region ?_
    refine OPS.val rfl rfl rfl (Ev.mvI rfl) ?_
    refine OPS.val rfl rfl rfl (Ev.asI rfl) ?_
    refine OPS.nil ?_
    refine WP.ret ⟨_, rfl, ?_⟩
    refine ⟨y, rfl, hy.ret (by simpa using hc13) (by omega) (fun j' h => ?_), H.below⟩
    obtain rfl : j' = 0 := by omega
    exact n0
  have n1 := hy.none (by simpa using hc13)
  refine WP.skip ?_
  refine WP.seq ?_
  refine WP.region ?_
  refine OPS.val rfl rfl rfl (Ev.mvI rfl) ?_
  refine OPS.val rfl rfl rfl (Ev.asI rfl) ?_
  refine OPS.nil ?_
  refine WP.ret ⟨_, rfl, ?_⟩
  refine ⟨z, rfl, ?_, H.below⟩
  have n2 : ∀ j', j' < 2 → ∀ k, k < hid.length → ¬ Free c i hid j' k := fun j' h => by
    match j', h with
    | 0, _ => exact n0
    | 1, _ => exact n1
  by_cases h : 0 ≤ z
  · exact hz.ret h (by omega) n2
  · have n3 := hz.none h
    refine .inl ⟨by have := hz.bd; omega, fun j hj => ?_⟩
    by_cases e : j = 2
    · subst e; exact n3
    · exact n2 j (by omega)
end Go.Proofs.Ytmkgfgnpgoegcaa
