/-
  Walk: Most.
-/
import Derived.Test.YthegjmgljolalaaT8
set_option linter.all false
namespace Go.Proofs.Ythegjmgljolalaa
open Go Go.W Go.RowKit

theorem arcsErr_ok {n : Int} : ∀ {l : List Arc}, arcsErr n l = 0 → ∀ a ∈ l, arcBad n a = false ∧ arcRange a = false
  | [], _, a, ha => by cases ha
  | b :: l, h, a, ha => by
    rw [arcsErr] at h
    split at h
    · cases h
    · rename_i h1
      split at h
      · cases h
      · rename_i h2
        rcases List.mem_cons.1 ha with rfl | ha
        · exact ⟨by simpa using h1, by simpa using h2⟩
        · exact arcsErr_ok h a ha
theorem netOk_of {n : Int} {l : List Arc} (h : netErr n l = 0) : ∃ m : Nat, n = m ∧ NetOk m l := by
  unfold netErr at h
  split at h
  · cases h
  · rename_i h1
    split at h
    · cases h
    · rename_i h2
      have h1 : 1 ≤ n ∧ n ≤ 64 := by simp at h1; omega
      obtain ⟨m, rfl⟩ := Int.eq_ofNat_of_zero_le (show 0 ≤ n by omega)
      refine ⟨m, rfl, by omega, by omega, by simp at h2; omega, fun a ha => ?_, fun a ha => ?_⟩
      · have := (arcsErr_ok h a ha).1
        simp [arcBad, isNode] at this; omega
      · have := (arcsErr_ok h a ha).2
        simp [arcRange] at this; omega
structure EndsOk (n f t : Int) (l : List Arc) (m s d : Nat) : Prop where
  hn : n = m
  hf : f = s
  ht : t = d
  net : NetOk m l
  s1 : s < m
  d1 : d < m
  ne : s ≠ d
theorem endsOk_of {n f t : Int} {l : List Arc} (h : endsErr n l f t = 0) : ∃ m s d : Nat, EndsOk n f t l m s d := by
  unfold endsErr at h
  split at h
  · rename_i h1; exact absurd h h1
  · rename_i h1
    split at h
    · cases h
    · rename_i h2
      split at h
      · cases h
      · rename_i h3
        obtain ⟨m, rfl, hN⟩ := netOk_of (by simpa using h1)
        simp [isNode] at h2
        obtain ⟨s, rfl⟩ := Int.eq_ofNat_of_zero_le (show 0 ≤ f by omega)
        obtain ⟨d, rfl⟩ := Int.eq_ofNat_of_zero_le (show 0 ≤ t by omega)
        exact ⟨m, s, d, rfl, rfl, rfl, hN, by omega, by omega, by omega⟩
/-- what Most returns -/
def MostRet (n f t : Int) (l : List Arc) (r e : Int) : Prop := e = endsErr n l f t ∧ (e ≠ 0 → r = 0) ∧ (e = 0 → ∃ m : Nat, n = m ∧ IsMax m l f t r)

theorem flowMost (n f t : Int) (A : Option Addr) (l : List Arc) (cap : Nat) (w0 : World) (hz : ArcsAt w0 A l) :
    Calls Try.prog 15 #[.agg #[I n, .slice A l.length cap], I f, I t] w0 fun e w' => ∃ r er : Int, e = .returned (.tuple #[I r, I er]) ∧ MostRet n f t l r er ∧ Below w0.heap.size w0 w' := by
  have H := SH.refl w0
  refine Calls.ofWP Try.func15 rfl Try.results15 Try.ntmps15 rfl ?_
  refine WP.seq ?_
  refine WP.region ?_
  refine OPS.box rfl rfl rfl rfl (cA rfl) H ?_
  clear H; intro g3 w H
  refine OPS.val rfl rfl rfl (Ev.asI rfl) ?_
  refine OPS.val rfl rfl rfl (Ev.asI rfl) ?_
  refine OPS.nil ?_
  refine WP.seq ?_
  refine WP.seq ?_
  refine WP.region ?_
  refine OPS.val rfl rfl rfl ((by exact Ev.loadO 0 H rfl (agg_run rfl) (size_run rfl) (by rfl) rfl)) ?_
  refine OPS.val rfl rfl rfl (Ev.mvI rfl) ?_
  refine OPS.val rfl rfl rfl (Ev.mvI rfl) ?_
  refine OPS.call (d := some 14) rfl rfl rfl (EvC.func (fun_run rfl)) (flowEnds n f t A l cap w (hz.sh H)) ?_
  rintro _ w ⟨rfl, hb⟩
  refine ⟨_, rfl, ?_⟩
  replace H := H.toBelow hb; clear hb
  refine OPS.val rfl rfl rfl (Ev.asI rfl) ?_
  refine OPS.nil ?_
  refine WP.seq ?_
  refine WP.region ?_
  refine OPS.val rfl rfl rfl (Ev.mvI rfl) ?_
  refine OPS.val rfl rfl rfl (Ev.neq rfl rfl) ?_
  refine OPS.nil ?_
  refine WP.cond rfl (fun hc2 => ?_) (fun hc2 => ?_)
  · refine WP.seq ?_
    refine WP.region ?_
    refine OPS.val rfl rfl rfl (Ev.mvI rfl) ?_
    refine OPS.val rfl rfl rfl (Ev.asI rfl) ?_
    refine OPS.val rfl rfl rfl (Ev.asI rfl) ?_
    refine OPS.nil ?_
    refine WP.ret ⟨_, rfl, ?_⟩
    have h : endsErr n l f t ≠ 0 := by simpa using hc2
    exact ⟨0, _, rfl, ⟨rfl, fun _ => rfl, fun h0 => absurd h0 h⟩, H.below⟩
  have h0 : endsErr n l f t = 0 := by simpa using hc2
  obtain ⟨m, s, d, hE⟩ := endsOk_of h0
  have e1 := hE.hn
  have e2 := hE.hf
  have e3 := hE.ht
  subst e1 e2 e3
  refine WP.skip ?_
  refine WP.seq ?_
  refine WP.region ?_
  refine OPS.val rfl rfl rfl ((by exact Ev.loadO 0 H rfl (agg_run rfl) (size_run rfl) (by rfl) rfl)) ?_
  refine OPS.val rfl rfl rfl (Ev.mvI rfl) ?_
  refine OPS.val rfl rfl rfl (Ev.mvI rfl) ?_
  refine OPS.call (d := some 22) rfl rfl rfl (EvC.func (fun_run rfl)) (flowGreatest m s d A l cap w hE.net hE.s1 hE.d1 hE.ne (hz.sh H)) ?_
  rintro _ w ⟨gon, on, amt, rfl, hol, _, hmax, Hc⟩
  refine ⟨_, rfl, ?_⟩
  replace H := SH.call (Lv := []) (by simpa using H) Hc
  clear Hc
  refine OPS.val rfl rfl rfl (Ev.mvT rfl) ?_
  refine OPS.val rfl rfl rfl (Ev.extract rfl rfl) ?_
  refine OPS.val rfl rfl rfl (Ev.extract rfl rfl) ?_
  refine OPS.alloc rfl rfl rfl rfl (zero_run rfl) rfl H ?_
  clear H; intro g9 w H
  refine OPS.store 0 _ rfl rfl rfl (size_run rfl) rfl (cA rfl) rfl rfl H rfl (by simp) ?_
  clear H; intro w H; try simp only [List.set_cons_zero, List.set_cons_succ, putL, Nat.zero_add] at H
  refine OPS.val rfl rfl rfl (Ev.asI rfl) ?_
  refine OPS.nil ?_
  refine WP.seq ?_
  refine WP.region ?_
  refine OPS.val rfl rfl rfl (Ev.mvI rfl) ?_
  refine OPS.val rfl rfl rfl (Ev.asI rfl) ?_
  refine OPS.val rfl rfl rfl (Ev.asI rfl) ?_
  refine OPS.nil ?_
  refine WP.ret ⟨_, rfl, ?_⟩
  exact ⟨amt, 0, rfl, ⟨h0.symm, fun h => absurd rfl h, fun _ => ⟨m, rfl, hmax⟩⟩, H.below⟩
end Go.Proofs.Ythegjmgljolalaa
