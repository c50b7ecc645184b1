/-
  Walk: suppress.next.
-/
import Derived.Test.YtmkgfgnpgoegcaaT14
set_option linter.all false
namespace Go.W
theorem EvC.clos0 {P : Program} {e : Env} {f : FuncId} {g : Operand} {caps : List Value} {args : List Operand} {tys : Array TypeId} (hg : ev e g = .func (.func f) #[] caps.toArray) (hc : ∀ (args : Array Value) (w : World), (callFunc f args).run P w = .ok (.enter f args) w) :
    EvC P e (.call { callee := .value g, args := args.toArray, argTypes := tys }) f (args.map (ev e) ++ caps) := EvC.clos (first := []) hg hc
end Go.W
namespace Go.Proofs.Ytmkgfgnpgoegcaa
open Go Go.W Go.RowKit

def fitK (c : Int) (i : Nat) : Nat → Nat → Bool
  | 0, k => decide ((k : Int) / c = (i : Int) / c)
  | 1, k => decide ((k : Int) % c = (i : Int) % c)
  | _, _ => true
def Free (c : Int) (i : Nat) (hid : List Bool) (j k : Nat) : Prop := hid.getD k false = false ∧ fitK c i j k = true
def NextRet (c : Int) (i : Nat) (hid : List Bool) (x : Int) : Prop :=
  (x = -1 ∧ ∀ j, j < 3 → ∀ k, k < hid.length → ¬ Free c i hid j k) ∨
  ∃ j k : Nat, x = k ∧ j < 3 ∧ k < hid.length ∧ Free c i hid j k ∧ (∀ k', k' < k → ¬ Free c i hid j k') ∧ ∀ j', j' < j → ∀ k, k < hid.length → ¬ Free c i hid j' k

set_option maxHeartbeats 400000 in
theorem supNext (r c : Int) (i : Nat) (A B : Option Addr) (zs : List Int) (hid : List Bool) (cap cap2 : Nat) (w0 : World) (hT : TblOk r c zs) (hh : hid.length = zs.length) (hi : i < zs.length) (hb : BoolsAt w0 B hid) :
    Calls Try.prog 29 #[.agg #[I r, I c, .slice A zs.length cap], .slice B hid.length cap2, I i] w0
      fun e w' => ∃ x : Int, e = .returned (I x) ∧ NextRet c i hid x ∧ Below w0.heap.size w0 w' := by
  have H := SH.refl w0
  have hbd := mul_bd hT.rng
  have hlen := hT.len
  obtain ⟨r1, r2, c1, c2⟩ := hT.rng
  refine Calls.ofWP Try.func29 rfl Try.results29 Try.ntmps29 rfl ?_
  refine WP.seq ?_
  refine WP.region ?_
  refine OPS.box rfl rfl rfl rfl (cA rfl) H ?_
  clear H; intro g3 w H
  refine OPS.box rfl rfl rfl rfl (cI rfl) H ?_
  clear H; intro g5 w H
  refine OPS.val rfl rfl rfl (Ev.asI rfl) ?_
  refine OPS.nil ?_
  refine WP.seq ?_
  refine WP.seq ?_
  refine WP.region ?_
  refine OPS.val rfl rfl rfl (Ev.makeFunc) ?_
  refine OPS.val rfl rfl rfl (Ev.makeFunc) ?_
  refine OPS.buildSlice rfl rfl rfl rfl (bsl_74_3_0_1_2 rfl rfl rfl) H ?_
  clear H; intro g12 w H
  refine OPS.val rfl rfl rfl (Ev.len (el_run rfl) rfl) ?_
  refine OPS.val rfl rfl rfl (Ev.mvI rfl) ?_
  refine OPS.nil ?_
  refine WP.block ?_
  refine WP.loop [6, 8, 9, 14, 15, 16, 17, 18, 19, 20, 21, 22, 23, 24, 25, 26, 27, 28, 29, 30, 31, 32, 33, 34, 35] (fun k e w' => ∃ j : Nat, j + k = 3 ∧ e 14 = I j ∧ (∀ j', j' < j → ∀ k, k < hid.length → ¬ Free c i hid j' k) ∧ SH w0 [] w' [⟨g12, 73, [.func (.func 39) #[] #[.pointer (some ⟨g3, 0, none⟩), .pointer (some ⟨g5, 0, none⟩)], .func (.func 40) #[] #[.pointer (some ⟨g3, 0, none⟩), .pointer (some ⟨g5, 0, none⟩)], .func (.func 41) #[] #[]]⟩, ⟨g5, 3, [I i]⟩, ⟨g3, 24, [I r, I c, .slice A zs.length cap]⟩]) (3) (⟨0, by omega, rfl, fun j' hj => absurd hj (by omega), H⟩) ?_
  clear H
  rintro k u w ⟨j, hk, h14, hall, H⟩
  refine WP.know (t := 14) h14 ?_
  refine WP.seq ?_
  refine WP.region ?_
  refine OPS.val rfl rfl rfl (Ev.lss rfl rfl) ?_
  refine OPS.nil ?_
  refine WP.seq ?_
  refine WP.cond rfl (fun hc2 => ?_) (fun hc2 => ?_)
  · have hlt : j < 3 := by simp at hc2; omega
    obtain ⟨fv, caps, hcell, hfun, hcl⟩ : ∃ (fv : Nat) (caps : List Value), w.cell? ⟨g12, 0 + j, none⟩ = some (.func (.func fv) #[] caps.toArray) ∧ funT fv = true ∧
        ∀ (k : Nat) (w' : World), k < 64 → Below w.heap.size w w' → Calls Try.prog fv ([I k] ++ caps).toArray w' fun e w'' => e = .returned (.bool (fitK c i j k)) ∧ Below w'.heap.size w' w'' := by
      have h1 : w.cell? ⟨g3, 0 + 1, none⟩ = some (I c) := H.ldL 2 rfl 1 rfl
      have h2 : w.cell? ⟨g5, 0, none⟩ = some (I i) := H.ldL 1 rfl 0 rfl
      match j, hlt with
      | 0, _ => exact ⟨_, [_, _], H.ldL 0 rfl 0 rfl, rfl, fun k w' hk hb => supNext1 c k i g3 g5 w' c1 c2 (by omega) (by omega) (cell_below hb h1) (cell_below hb h2)⟩
      | 1, _ => exact ⟨_, [_, _], H.ldL 0 rfl 1 rfl, rfl, fun k w' hk hb => supNext2 c k i g3 g5 w' c1 c2 (by omega) (by omega) (cell_below hb h1) (cell_below hb h2)⟩
      | 2, _ => exact ⟨_, [], H.ldL 0 rfl 2 rfl, rfl, fun k w' hk hb => supNext3 k w'⟩
    refine WP.skip ?_
    refine WP.seq ?_
    refine WP.block ?_
    refine WP.seq ?_
    refine WP.region ?_
    refine OPS.val rfl rfl rfl ((by first | exact Ev.indexAddr1 (el_run rfl) (size_run rfl) rfl rfl rfl (by omega) | exact Ev.indexAddr (el_run rfl) (size_run rfl) rfl rfl rfl (by omega))) ?_
    refine OPS.val rfl rfl rfl (Ev.load1 (agg_run rfl) rfl (by first | exact H.ldL 0 rfl _ rfl | exact H.ldL 1 rfl _ rfl | exact H.ldL 2 rfl _ rfl | exact H.ldL 3 rfl _ rfl | exact H.ldL 4 rfl _ rfl | exact H.ldL 5 rfl _ rfl | exact H.ldL 6 rfl _ rfl | exact H.ldL 7 rfl _ rfl | exact H.ld0 (by assumption) | assumption | exact H.ldS (by assumption) (by assumption))) ?_
    refine OPS.val rfl rfl rfl (Ev.asF rfl) ?_
    refine OPS.nil ?_
    refine WP.seq ?_
    refine WP.region ?_
    refine OPS.val rfl rfl rfl (Ev.mvS rfl) ?_
    refine OPS.val rfl rfl rfl (Ev.len (el_run rfl) rfl) ?_
    refine OPS.val rfl rfl rfl (Ev.mvI rfl) ?_
    refine OPS.nil ?_
    refine WP.block ?_
    refine WP.loop [6, 9, 20, 21, 22, 23, 24, 25, 26, 27, 28, 29, 30, 31, 32, 33, 34] (fun k e w' => ∃ m : Nat, m + k = hid.length ∧ e 20 = I m ∧ (∀ k', k' < m → ¬ Free c i hid j k') ∧ SH w0 [] w' [⟨g12, 73, [.func (.func 39) #[] #[.pointer (some ⟨g3, 0, none⟩), .pointer (some ⟨g5, 0, none⟩)], .func (.func 40) #[] #[.pointer (some ⟨g3, 0, none⟩), .pointer (some ⟨g5, 0, none⟩)], .func (.func 41) #[] #[]]⟩, ⟨g5, 3, [I i]⟩, ⟨g3, 24, [I r, I c, .slice A zs.length cap]⟩] ∧ Below w.heap.size w w') (hid.length) (⟨0, by omega, rfl, fun k' hk => absurd hk (by omega), H, Below.refl _ _⟩) ?_
    clear H
    rintro k2 u2 w2 ⟨m, hk2, h20, hno, H, hBw⟩
    refine WP.know (t := 20) h20 ?_
    refine WP.seq ?_
    refine WP.region ?_
    refine OPS.val rfl rfl rfl (Ev.lss rfl rfl) ?_
    refine OPS.nil ?_
    refine WP.seq ?_
    refine WP.cond rfl (fun hc5 => ?_) (fun hc5 => ?_)
    · have hlm : m < hid.length := by simpa using hc5
      obtain ⟨b2, o2, rfl, hd⟩ := hb m hlm
      refine WP.skip ?_
      refine WP.seq ?_
      refine WP.block ?_
      refine WP.seq ?_
      refine WP.region ?_
      refine OPS.val rfl rfl rfl (Ev.mvI rfl) ?_
      refine OPS.val rfl rfl rfl (Ev.asI rfl) ?_
      refine OPS.nil ?_
      refine WP.seq ?_
      refine WP.region ?_
      refine OPS.val rfl rfl rfl (Ev.mvS rfl) ?_
      refine OPS.val rfl rfl rfl (Ev.mvI rfl) ?_
      refine OPS.val rfl rfl rfl ((by first | exact Ev.indexAddr1 (el_run rfl) (size_run rfl) rfl rfl rfl (by omega) | exact Ev.indexAddr (el_run rfl) (size_run rfl) rfl rfl rfl (by omega))) ?_
      refine OPS.val rfl rfl rfl (Ev.load1 (agg_run rfl) rfl (by first | exact H.ldL 0 rfl _ rfl | exact H.ldL 1 rfl _ rfl | exact H.ldL 2 rfl _ rfl | exact H.ldL 3 rfl _ rfl | exact H.ldL 4 rfl _ rfl | exact H.ldL 5 rfl _ rfl | exact H.ldL 6 rfl _ rfl | exact H.ldL 7 rfl _ rfl | exact H.ld0 (by assumption) | assumption | exact H.ldS (by assumption) (by assumption))) ?_
      refine OPS.val rfl rfl rfl (Ev.not rfl) ?_
      refine OPS.val rfl rfl rfl (Ev.mvB rfl) ?_
      refine OPS.gval rfl rfl rfl rfl rfl (fun hg => Ev.mvF (by first | rfl | exact gvE hg rfl)) ?_
      refine OPS.gval rfl rfl rfl rfl rfl (fun hg => Ev.mvI (by first | rfl | exact gvE hg rfl)) ?_
      refine OPS.gcall0 (hcl m _ (by omega) hBw) (fun _ _ h => h) rfl rfl rfl rfl rfl (fun hg => EvC.conv (EvC.clos0 (by first | rfl | exact gvE hg rfl) (fun_run (by assumption))) (congrArg (· ++ _) (l1 (by first | rfl | exact gvE hg rfl)))) ?_
      intro w hbc; replace H := H.toBelow hbc
      replace hBw := hBw.trans (hbc.mono hBw.size)
      refine OPS.val rfl rfl rfl ((by first | exact Ev.pickOr rfl rfl rfl | exact Ev.pickAnd rfl rfl rfl)) ?_
      refine OPS.nil ?_
      refine WP.cond rfl (fun hc7 => ?_) (fun hc7 => ?_)
      · refine WP.seq ?_
        refine WP.region ?_
        refine OPS.val rfl rfl rfl (Ev.mvI rfl) ?_
        refine OPS.val rfl rfl rfl (Ev.asI rfl) ?_
        refine OPS.nil ?_
        refine WP.ret ⟨_, rfl, ?_⟩
        have hf : Free c i hid j m := by
          refine ⟨?_, ?_⟩
          · simp [hlm]; by_cases hx : hid[m] = true
            · simp [hx, gv] at hc7
            · simpa using hx
          · by_cases hx : hid[m] = true
            · simp [hx, gv] at hc7
            · simpa [hx, gv] using hc7
        exact ⟨m, rfl, .inr ⟨j, m, rfl, hlt, hlm, hf, hno, hall⟩, H.below⟩
      refine WP.skip ?_
      refine WP.region ?_
      refine OPS.val rfl rfl rfl (Ev.add rfl rfl (by unfold fits; omega)) ?_
      refine OPS.val rfl rfl rfl (Ev.mvI rfl) ?_
      refine OPS.nil ?_
      refine ⟨(by repeat (first | exact Agree.refl _ _ | exact Agree.mix _ _ _ | refine Agree.upd rfl ?_ | refine Agree.mix2 rfl ?_)), k2 - 1, by omega, m + 1, by omega, rfl, fun k' hk' => ?_, H, hBw⟩
      by_cases hkm : k' < m
      · exact hno k' hkm
      · obtain rfl : k' = m := by omega
        rintro ⟨f1, f2⟩
        have hx : hid[k'] = false := by simpa [hlm] using f1
        simp [hx, gv, f2] at hc7
    refine WP.exit ?_
    refine XB.hit ?_
    refine WP.region ?_
    refine OPS.val rfl rfl rfl (Ev.add rfl rfl (by unfold fits; omega)) ?_
    refine OPS.val rfl rfl rfl (Ev.mvI rfl) ?_
    refine OPS.nil ?_
    have hm : m = hid.length := by simp at hc5; omega
    subst hm
    refine ⟨(by repeat (first | exact Agree.refl _ _ | exact Agree.mix _ _ _ | refine Agree.upd rfl ?_ | refine Agree.mix2 rfl ?_)), k - 1, by omega, j + 1, by omega, rfl, fun j' hj' => ?_, H⟩
    by_cases hjj : j' < j
    · exact hall j' hjj
    · obtain rfl : j' = j := by omega
      exact hno
  refine WP.exit ?_
  refine XB.hit ?_
  refine WP.seq ?_
  refine WP.region ?_
  refine OPS.val rfl rfl rfl (Ev.asI rfl) ?_
  refine OPS.nil ?_
  refine WP.ret ⟨_, rfl, ?_⟩
  have hj : j = 3 := by simp at hc2; omega
  subst hj
  exact ⟨-1, rfl, .inl ⟨rfl, hall⟩, H.below⟩
end Go.Proofs.Ytmkgfgnpgoegcaa
