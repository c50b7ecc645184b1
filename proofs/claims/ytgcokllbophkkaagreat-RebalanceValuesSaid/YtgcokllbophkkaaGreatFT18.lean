/-
 Walks: the reference's Check, ends, Small, Bools.
-/
import Derived.Test.YtgcokllbophkkaaGreatT22
import Derived.Test.YtgcokllbophkkaaGreatPtr
import Derived.Test.YtgcokllbophkkaaGreatB4
import Derived.Test.YtgcokllbophkkaaGreatFT14
import Derived.Scope
import Derived.Test.YtgcokllbophkkaaGreatFacts
set_option linter.all false
set_option maxHeartbeats 4000000
namespace Go.Proofs.YtgcokllbophkkaaGreat.Flo
open Go Go.W Go.RowKit
theorem jdo (n k : Int) : (decide (k < 0) || decide (n ≤ k)) = !jaV n k := by
 unfold jaV
 by_cases h1 : k < 0 <;> by_cases h2 : n ≤ k <;> simp [h1, h2] <;> omega
theorem jfF (n : Int) (a : Arc) : (((decide (a.f < 0) || decide (n ≤ a.f)) || decide (a.t < 0)) || decide (n ≤ a.t)) = jcS n a := by
 rw [Bool.or_assoc, jdo, jdo]; rfl
theorem jlJ (n : Int) (A : Option Addr) (l : List Arc) (cap : Nat) (w0 : World) (hz : ArcsAt w0 A l) :
  Calls Tryz.prog 138 #[.agg #[I n, .slice A l.length cap]] w0 fun e w' => e = .returned (I (jby n l)) ∧ Below w0.heap.size w0 w' := by
 have H := SH.refl w0
 refine Calls.ofWP Tryz.func138 rfl Tryz.results138 Tryz.ntmps138 rfl<|Y.qr<|Y.bx (cA rfl) H ?_
 clear H; intro g1 w H
 refine Y.bz rfl<|Y.qq<|Y.W H 0 rfl<|Y.lt rfl<|Y.B rfl<|Y.gf rfl<|Y.yy H 0 rfl<|Y.g rfl rfl (fun hg => Ev.gtr (gvE hg rfl) rfl)<|Y.po rfl<|Y.z ?_
 refine WP.cond rfl (fun hc1 => ?_) (fun hc1 => ?_)
 ·refine Y.qr<|Y.bz rfl ?_
  refine WP.ret ⟨_, rfl, ?_⟩
  exact ⟨by rw [jby, if_pos hc1]; rfl, H.below⟩
 refine Y.k<|Y.qq<|Y.W H 0 rfl<|Y.E rfl<|Y.v (Ev.gtr rfl rfl)<|Y.z ?_
 refine WP.cond rfl (fun hc3 => ?_) (fun hc3 => ?_)
 ·refine Y.qr<|Y.bz rfl ?_
  refine WP.ret ⟨_, rfl, ?_⟩
  exact ⟨by rw [jby, if_neg (by simp [hc1]), if_pos (by simpa using hc3)]; rfl, H.below⟩
 have hl : l.length ≤ 512 := by simp at hc3; omega
 have e0 : jby n l = jbl n l := by rw [jby, if_neg (by simp [hc1]), if_neg (by simpa using hc3)]
 refine Y.k<|Y.qq<|Y.bz rfl<|WP.block<|WP.loop [2, 3, 4, 17, 18, 19, 20, 21, 22, 23, 24, 25, 26, 27, 28, 29, 30, 31, 32, 33, 34, 35, 36, 37, 38, 39, 40, 41, 42, 43, 44, 45, 46, 47, 48, 49, 50, 51, 52, 53, 54, 55, 56, 57, 58, 59, 60, 61, 62, 63, 64, 65, 66, 67, 68] (fun k e w' => ∃ j : Nat, j + k = l.length ∧ e 3 = .int .i64 j ∧ SH w0 [] w' [⟨g1, 123, [I n, .slice A l.length cap]⟩] ∧ ∀ i (hi : i < l.length), i < j → jcS n l[i] = false ∧ jbE l[i] = false) (l.length) (⟨0, by omega, rfl, H, fun i _ hi => absurd hi (by omega)⟩) ?_
 clear H
 rintro k u w ⟨j, hk, h3', H, hall⟩
 refine WP.know (t := 3) h3'<|Y.qq<|Y.a rfl<|Y.W H 0 rfl<|Y.E rfl<|Y.lt rfl<|Y.z ?_
 refine WP.cond rfl (fun hc6 => ?_) (fun hc6 => ?_)
 ·have hlt : j < l.length := by simpa using hc6
  obtain ⟨b, o, rfl, hc⟩ := hz j hlt
  have hc' := k7 H hc
  refine Y.k<|Y.q<|WP.block<|Y.qr<|Y.W H 0 rfl<|Y.a rfl<|Y.U rfl<|Y.v (by (change Ev _ _ _ _ (Op.load 151 (Operand.tmp 27)) _; exact Ev.loadN (arcCells l[j]) (j6 rfl) (j4 rfl) rfl hc'))<|Y.al H rfl rfl ?_
  clear H; intro g4 w H
  refine Y.ss 0 H rfl (cA rfl) rfl ?_
  clear H; intro w H
  refine Y.z<|Y.qq<|Y.W H 0 rfl<|Y.lt rfl<|Y.B rfl<|Y.gf rfl<|Y.yy H 0 rfl<|Y.gf rfl<|Y.yy H 1 rfl<|Y.g rfl rfl (fun hg => Ev.geq (gvE hg rfl) (gvE hg rfl))<|Y.po rfl<|Y.B rfl<|Y.gf rfl<|Y.yy H 0 rfl<|Y.g rfl rfl (fun hg => Ev.lss (gvE hg rfl) rfl)<|Y.po rfl<|Y.B rfl<|Y.gf rfl<|Y.yy H 0 rfl<|Y.gf rfl<|Y.yy H 1 rfl<|Y.g rfl rfl (fun hg => Ev.geq (gvE hg rfl) (gvE hg rfl))<|Y.po rfl<|Y.z ?_
  refine WP.cond rfl (fun hc9 => ?_) (fun hc9 => ?_)
  ·have hbad : jcS n l[j] = true := by rw [← jfF]; exact hc9
   refine Y.qr<|Y.bz rfl ?_
   refine WP.ret ⟨_, rfl, ?_⟩
   exact ⟨by rw [e0, ja7 (by omega) hall, List.drop_eq_getElem_cons hlt, jbl, if_pos hbad]; rfl, H.below⟩
  have hbad : jcS n l[j] = false := by rw [← jfF]; exact hc9
  refine Y.k<|Y.qr<|Y.W H 0 rfl<|Y.lt rfl<|Y.B rfl<|Y.gf rfl<|Y.yy H 0 rfl<|Y.g rfl rfl (fun hg => Ev.gtr (gvE hg rfl) rfl)<|Y.po rfl<|Y.B rfl<|Y.gf rfl<|Y.yy H 0 rfl<|Y.g rfl rfl (fun hg => Ev.lss (gvE hg rfl) rfl)<|Y.po rfl<|Y.B rfl<|Y.gf rfl<|Y.yy H 0 rfl<|Y.g rfl rfl (fun hg => Ev.gtr (gvE hg rfl) rfl)<|Y.po rfl<|Y.z ?_
  refine WP.cond rfl (fun hc11 => ?_) (fun hc11 => ?_)
  ·refine Y.qr<|Y.bz rfl ?_
   refine WP.ret ⟨_, rfl, ?_⟩
   exact ⟨by rw [e0, ja7 (by omega) hall, List.drop_eq_getElem_cons hlt, jbl, if_neg (by rw [hbad]; simp), if_pos (show jbE l[j] = true from hc11)]; rfl, H.below⟩
  refine Y.k<|Y.r<|Y.a rfl<|Y.P rfl<|Y.bz rfl ?_
  refine ⟨Y.ag, k - 1, by omega, j + 1, by omega, rfl, H.drop (by simp), fun i hi hij => ?_⟩
  rcases Nat.lt_succ_iff_lt_or_eq.1 hij with h | rfl
  ·exact hall i hi h
  ·exact ⟨hbad, hc11⟩
 refine WP.exit<|XB.hit<|Y.qr<|Y.bz rfl ?_
 refine WP.ret ⟨_, rfl, ?_⟩
 have : j = l.length := by simp at hc6; omega
 subst this
 exact ⟨by rw [e0, ja7 (by omega) hall]; simp [jbl]; rfl, H.below⟩
theorem refEnds (n f t : Int) (A : Option Addr) (l : List Arc) (cap : Nat) (w0 : World) (hz : ArcsAt w0 A l) :
  Calls Tryz.prog 117 #[.agg #[I n, .slice A l.length cap], I f, I t] w0 fun e w' => e = .returned (I (endsErr n l f t)) ∧ Below w0.heap.size w0 w' := by
 have H := SH.refl w0
 refine Calls.ofWP Tryz.func117 rfl Tryz.results117 Tryz.ntmps117 rfl<|Y.qr<|Y.bx (cA rfl) H ?_
 clear H; intro g3 w H
 refine Y.bz rfl<|Y.qr<|Y.O H 0 rfl<|Y.cl 9 rfl (jlJ n A l cap w (hz.sh H)) H ?_
 clear H; intro w H
 refine Y.bz rfl<|Y.qq<|Y.a rfl<|Y.V rfl<|Y.z ?_
 refine WP.cond rfl (fun hc2 => ?_) (fun hc2 => ?_)
 ·refine Y.qr<|Y.a rfl<|Y.bz rfl ?_
  refine WP.ret ⟨_, rfl, ?_⟩
  have h : jby n l ≠ 0 := by simpa using hc2
  exact ⟨by rw [endsErr, if_pos h]; rfl, H.below⟩
 have h0 : jby n l = 0 := by simpa using hc2
 refine Y.k<|Y.qq<|Y.a rfl<|Y.lt rfl<|Y.B rfl<|Y.gm rfl<|Y.gf rfl<|Y.yy H 0 rfl<|Y.g rfl rfl (fun hg => Ev.geq (gvE hg rfl) (gvE hg rfl))<|Y.po rfl<|Y.B rfl<|Y.gm rfl<|Y.g rfl rfl (fun hg => Ev.lss (gvE hg rfl) rfl)<|Y.po rfl<|Y.B rfl<|Y.gm rfl<|Y.gf rfl<|Y.yy H 0 rfl<|Y.g rfl rfl (fun hg => Ev.geq (gvE hg rfl) (gvE hg rfl))<|Y.po rfl<|Y.z ?_
 refine WP.cond rfl (fun hc4 => ?_) (fun hc4 => ?_)
 ·refine Y.qr<|Y.bz rfl ?_
  refine WP.ret ⟨_, rfl, ?_⟩
  rw [Bool.or_assoc, jdo, jdo] at hc4
  exact ⟨by rw [endsErr, if_neg (by simp [h0]), if_pos hc4]; rfl, H.below⟩
 rw [Bool.or_assoc, jdo, jdo] at hc4
 refine Y.k<|Y.qq<|Y.a rfl<|Y.a rfl<|Y.v (Ev.eql rfl rfl)<|Y.z ?_
 refine WP.cond rfl (fun hc6 => ?_) (fun hc6 => ?_)
 ·refine Y.qr<|Y.bz rfl ?_
  refine WP.ret ⟨_, rfl, ?_⟩
  exact ⟨by rw [endsErr, if_neg (by simp [h0]), if_neg (by simp [hc4]), if_pos (by simpa using hc6)]; rfl, H.below⟩
 refine Y.k<|Y.qr<|Y.bz rfl ?_
 refine WP.ret ⟨_, rfl, ?_⟩
 exact ⟨by rw [endsErr, if_neg (by simp [h0]), if_neg (by simp [hc4]), if_neg (by simpa using hc6)]; rfl, H.below⟩
end Go.Proofs.YtgcokllbophkkaaGreat.Flo
namespace Go.Proofs.YtgcokllbophkkaaGreat.Flo
open Go Go.W Go.RowKit
theorem BFI.bds {l : List Arc} {on : List Int} {n s : Nat} {K : Nat → Bool} {D : Nat → Int} {rk : Nat → Int} {r : Int} {Pr : Nat → Bool → Prop} {d stp : List Int} {fin : List Bool} {T : Nat → Int} (h : BFI l on n s K D rk r Pr d stp fin T) (hS : SP l on n s K D rk) (hn : n ≤ 64) {v : Nat} (hv : v < n) : -10000000 ≤ dAt d v ∧ dAt d v ≤ 1099511627776 := by
 cases hk : K v with
 | true =>
  have h1 := h.lo v hv hk
  have h2 := hS.bd v hv hk
  unfold jdd at h1; omega
 | false => rw [h.unk v hv hk]; unfold jdd; omega
theorem jmj (n s : Nat) (A B : Option Addr) (l : List Arc) (on : List Int) (cap cap2 : Nat) (K : Nat → Bool) (D : Nat → Int) (rk : Nat → Int) (w0 : World) (hN : NetOk n l) (hs : s < n) (hV : jaP l on) (hz : ArcsAt w0 A l) (ho : k9 w0 B on) (hS : SP l on n s K D rk) :
  Calls Tryz.prog 118 #[.agg #[I n, .slice A l.length cap], .slice B on.length cap2, I s] w0 fun e w' => ∃ (gd gs : Nat) (d stp : List Int) (T : Nat → Int), e = .returned (.tuple #[.slice (some ⟨gd, 0, none⟩) n n, .slice (some ⟨gs, 0, none⟩) n n]) ∧ CR l on n s K D T d stp ∧ SH w0 [] w' [⟨gd, 3, d.map I⟩, ⟨gs, 3, stp.map I⟩] := by
 have H := SH.refl w0
 have hn2 := hN.n2
 have hll := hN.len
 have hol := hV.len
 refine Calls.ofWP Tryz.func118 rfl Tryz.results118 Tryz.ntmps118 rfl<|Y.qr<|Y.bx (cA rfl) H ?_
 clear H; intro g3 w H
 refine Y.aS rfl<|Y.aS rfl<|Y.z<|Y.q ?_
 refine WP.rheldC [8, 9, 14, 15, 16, 17, 18, 19] (fun u w' => ∃ gd gs : Nat, u 8 = .slice (some ⟨gd, 0, none⟩) n n ∧ u 9 = .slice (some ⟨gs, 0, none⟩) n n ∧ SH w0 [] w' [⟨gd, 3, (List.replicate n 0).map I⟩, ⟨gs, 3, (List.replicate n 0).map I⟩, ⟨g3, 123, [I n, .slice A l.length cap]⟩]) mixed H ?_ ?_
 ·clear H; intro w hbw1 H
  refine Y.tf 0 H rfl<|Y.tl 1 H 0 rfl<|Y.tf 3 H rfl<|Y.tl 4 H 0 rfl ?_
  refine Y.A2 2 5 rfl rfl rfl ?_ ?_
  ·refine Y.M H rfl ?_
   clear H; intro g16 w H
   refine Y.z <| ⟨(H.drop Y.sc), ?_⟩
   refine Y.t 6 (H.drop Y.sc) rfl rfl (fun w H => Ev.asS rfl)<|Y.A1 5 rfl rfl<|Y.M H rfl ?_
   clear H; intro g19 w H
   refine Y.z <| ⟨(H.drop (Y.sc.trans Y.sc)), ?_⟩
   refine Y.t 7 (H.drop (Y.sc.trans Y.sc)) rfl rfl (fun w H => Ev.asS rfl)<|Y.dn ?_
   refine ⟨Y.ag, g16, g19, rfl, rfl, ?_⟩; rw [← jag]; exact H.reidx [1, 0, 2] (by decide) rfl
  ·refine Y.M H rfl ?_
   clear H; intro g19 w H
   refine Y.z <| ⟨(H.drop Y.sc), ?_⟩
   refine Y.A1 2 rfl rfl<|Y.M H rfl ?_
   clear H; intro g16 w H
   refine Y.z <| ⟨(H.drop (Y.sc.trans Y.sc)), ?_⟩
   refine Y.t 6 (H.drop (Y.sc.trans Y.sc)) rfl rfl (fun w H => Ev.asS rfl)<|Y.t 7 (H.drop (Y.sc.trans Y.sc)) rfl rfl (fun w H => Ev.asS rfl)<|Y.dn ?_
   refine ⟨Y.ag, g16, g19, rfl, rfl, ?_⟩; rw [← jag]; exact H
 clear H
 rintro u w ⟨gd, gs, h8, h9, H⟩
 refine WP.know (t := 8) h8 (WP.know (t := 9) h9 ?_)
 have hfl : (List.replicate n jdd).length = (List.replicate n (0 : Int)).length := by simp
 refine Y.qq<|Y.bz rfl<|WP.block<|WP.loop [10, 20, 21, 22, 23, 24, 25, 26, 27, 28] (fun k e w' => ∃ v : Nat, v + k = n ∧ e 10 = I v ∧ SH w0 [] w' [⟨gd, 3, (jcl (List.replicate n jdd) (List.replicate n 0) v).map I⟩, ⟨gs, 3, (List.replicate n 0).map I⟩, ⟨g3, 123, [I n, .slice A l.length cap]⟩]) (n) (⟨0, by omega, rfl, by rw [jde]; exact H⟩) ?_
 clear H
 rintro k u w ⟨v, hk, h10, H⟩
 refine WP.know (t := 10) h10<|Y.qq<|Y.a rfl<|Y.W H 2 rfl<|Y.lt rfl<|Y.z ?_
 refine WP.cond rfl (fun hc3 => ?_) (fun hc3 => ?_)
 ·have hvn : v < n := by simp at hc3; omega
  have hml : (jcl (List.replicate n jdd) (List.replicate n 0) v).length = n := by rw [jci hfl (by simp; omega)]; simp
  have hms := jdV (m := List.replicate n (0 : Int)) hfl (show v < (List.replicate n jdd).length by simpa using hvn)
  rw [List.getElem_replicate] at hms
  refine Y.k<|Y.q<|WP.block<|Y.r<|Y.sS rfl<|Y.a rfl<|Y.I rfl ?_
  have hpu : jam ((jcl (List.replicate n jdd) (List.replicate n 0) v).map I) (0 + v) [I jdd] = (jcl (List.replicate n jdd) (List.replicate n 0) (v + 1)).map I := by rw [Nat.zero_add, jae, hms]
  refine OPS.store (vs := [I jdd]) 0 _ rfl rfl rfl (j4 rfl) rfl (cI rfl) rfl rfl H rfl (by simp only [List.length_map, hml]; omega) ?_
  clear H; intro w H
  simp only [List.set_cons_zero, List.set_cons_succ] at H
  rw [hpu] at H
  refine Y.z<|Y.r<|Y.a rfl<|Y.P rfl<|Y.bz rfl ?_
  exact ⟨Y.ag, k - 1, by omega, v + 1, by omega, rfl, H⟩
 have hvn : v = n := by simp at hc3; omega
 have hma : jcl (List.replicate n jdd) (List.replicate n 0) n = List.replicate n jdd := by
  have h := jdO hfl
  rw [List.length_replicate] at h; exact h
 rw [hvn, hma] at H
 refine WP.exit<|XB.hit<|Y.qr<|Y.sS rfl<|Y.a rfl<|Y.I rfl ?_
 have hpu : jam ((List.replicate n jdd).map I) (0 + s) [I 0] = ((List.replicate n jdd).set s 0).map I := by rw [Nat.zero_add, jae]
 refine OPS.store (vs := [I 0]) 0 _ rfl rfl rfl (j4 rfl) rfl (cI rfl) rfl rfl H rfl (by simp; omega) ?_
 clear H; intro w H
 simp only [List.set_cons_zero, List.set_cons_succ] at H
 rw [hpu] at H
 refine Y.z<|Y.qq<|Y.bz rfl<|WP.block<|WP.loop [11, 12, 13, 32, 33, 34, 35, 36, 37, 38, 39, 40, 41, 42, 43, 44, 45, 46, 47, 48, 49, 50, 51, 52, 53, 54, 55, 56, 57, 58, 59, 60, 61, 62, 63, 64, 65, 66, 67, 68, 69, 70, 71, 72, 73, 74, 75, 76, 77, 78, 79, 80, 81, 82, 83, 84, 85, 86, 87, 88, 89, 90, 91, 92, 93, 94, 95, 96, 97, 98, 99, 100, 101, 102, 103, 104, 105, 106, 107, 108, 109, 110, 111, 112, 113, 114, 115, 116, 117, 118, 119, 120, 121, 122, 123, 124, 125, 126, 127, 128, 129, 130, 131, 132, 133, 134, 135, 136, 137, 138, 139, 140, 141, 142, 143, 144, 145, 146] (fun k e w' => ∃ (r : Nat) (d stp : List Int) (fin : List Bool) (T : Nat → Int), r + k = n ∧ e 11 = I r ∧ SH w0 [] w' [⟨gd, 3, d.map I⟩, ⟨gs, 3, stp.map I⟩, ⟨g3, 123, [I n, .slice A l.length cap]⟩] ∧ BFI l on n s K D rk r (fun i _ => i < 0) d stp fin T) (n) (⟨0, _, _, _, _, by omega, rfl, H, (BFI.init hS hn2 hs).mono fun _ _ _ _ _ _ _ h => absurd h (by omega)⟩) ?_
 clear H
 rintro k u w ⟨r, d, stp, fin, T, hk, h11, H, hB⟩
 refine WP.know (t := 11) h11<|Y.qq<|Y.a rfl<|Y.W H 2 rfl<|Y.lt rfl<|Y.z ?_
 refine WP.cond rfl (fun hc8 => ?_) (fun hc8 => ?_)
 ·have hrn : r < n := by simp at hc8; omega
  refine Y.k<|Y.q<|WP.block<|Y.qr<|Y.bz rfl<|WP.block<|WP.loop [12, 13, 38, 39, 40, 41, 42, 43, 44, 45, 46, 47, 48, 49, 50, 51, 52, 53, 54, 55, 56, 57, 58, 59, 60, 61, 62, 63, 64, 65, 66, 67, 68, 69, 70, 71, 72, 73, 74, 75, 76, 77, 78, 79, 80, 81, 82, 83, 84, 85, 86, 87, 88, 89, 90, 91, 92, 93, 94, 95, 96, 97, 98, 99, 100, 101, 102, 103, 104, 105, 106, 107, 108, 109, 110, 111, 112, 113, 114, 115, 116, 117, 118, 119, 120, 121, 122, 123, 124, 125, 126, 127, 128, 129, 130, 131, 132, 133, 134, 135, 136, 137, 138, 139, 140, 141, 142, 143, 144, 145, 146] (fun k2 e w' => ∃ (j : Nat) (d stp : List Int) (fin : List Bool) (T : Nat → Int), j + k2 = l.length ∧ e 12 = I j ∧ SH w0 [] w' [⟨gd, 3, d.map I⟩, ⟨gs, 3, stp.map I⟩, ⟨g3, 123, [I n, .slice A l.length cap]⟩] ∧ BFI l on n s K D rk r (fun i _ => i < j) d stp fin T) (l.length) (⟨0, d, stp, fin, T, by omega, rfl, H, hB⟩) ?_
  clear H hB
  rintro k2 u2 w ⟨j, d, stp, fin, T, hk2, h12, H, hB⟩
  refine WP.know (t := 12) h12<|Y.qq<|Y.a rfl<|Y.W H 2 rfl<|Y.E rfl<|Y.lt rfl<|Y.z ?_
  refine WP.cond rfl (fun hc11 => ?_) (fun hc11 => ?_)
  ·have hlt : j < l.length := by simp at hc11; omega
   have hlt2 : j < on.length := by omega
   obtain ⟨b, o, rfl, hc⟩ := hz j hlt
   obtain ⟨b2, o2, rfl, hx⟩ := ho j hlt2
   have hc' := k7 H hc
   have h2 := hN.caps l[j] (List.getElem_mem _)
   obtain ⟨a, b', ham, hbm, hfa, htb, eF, eB⟩ := jdi (on := on) hN.nodes hlt hlt2 p0
   rw [jkC] at eF eB
   refine Y.k<|Y.q<|WP.block<|Y.qr<|Y.W H 2 rfl<|Y.a rfl<|Y.U rfl<|Y.v (by (change Ev _ _ _ _ (Op.load 151 (Operand.tmp 48)) _; exact Ev.loadN (arcCells l[j]) (j6 rfl) (j4 rfl) rfl hc'))<|Y.al H rfl rfl ?_
   clear H; intro g13 w H
   refine Y.ss 0 H rfl (cA rfl) rfl ?_
   clear H; intro w H
   refine Y.z<|Y.q<|Y.q ?_
   rw [show arcCells l[j] = [I a, I b', I l[j].cap, I l[j].cost] from by unfold arcCells; rw [hfa, htb]] at H
   have hdl := hB.dlen
   have hsl := hB.stlen
   have hda : dAt d a = d[a]'(by omega) := by simp [dAt, hdl, ham]
   have hdb : dAt d b' = d[b']'(by omega) := by simp [dAt, hdl, hbm]
   have hba := hB.bds hS hn2 ham
   have hbb := hB.bds hS hn2 hbm
   rw [hda] at hba
   rw [hdb] at hbb
   refine WP.rstill mixed (by kernel_rfl) H ?_
   clear H; intro w hbw14 H
   obtain ⟨_, _, e1, hxa⟩ := y9 H 1 rfl a (by omega)
   cases e1
   obtain ⟨_, _, e1, hxb⟩ := y9 H 1 rfl b' (by omega)
   cases e1
   refine Y.sS rfl<|Y.a rfl<|Y.I rfl<|Y.v (Y.c (H.ld0 (by assumption)) rfl) ?_
   refine Y.W H 0 rfl<|Y.lt rfl<|Y.B rfl<|Y.g rfl rfl (fun hg => Ev.mvS rfl)<|Y.gf rfl<|Y.yy H 0 rfl<|Y.g rfl rfl (fun hg => Ev.indexAddr1 (x7 rfl) (j4 rfl) (gvE hg rfl) (gvE hg rfl) rfl (by omega))<|Y.g rfl rfl (fun hg => Ev.load1 (j6 rfl) (gvE hg rfl) (by assumption)) ?_
   refine Y.g rfl rfl (fun hg => Ev.lss (gvE hg rfl) rfl)<|Y.pa rfl<|Y.B rfl<|Y.g rfl rfl (fun hg => Ev.mvS rfl)<|Y.gf rfl<|Y.yy H 0 rfl<|Y.g rfl rfl (fun hg => Ev.indexAddr1 (x7 rfl) (j4 rfl) (gvE hg rfl) (gvE hg rfl) rfl (by omega))<|Y.g rfl rfl (fun hg => Ev.load1 (j6 rfl) (gvE hg rfl) (by assumption)) ?_
   refine Y.gf rfl<|Y.yy H 0 rfl<|Y.g rfl rfl (fun hg => Ev.add (gvE hg rfl) (gvE hg rfl) (by unfold fits; omega))<|Y.g rfl rfl (fun hg => Ev.mvS rfl)<|Y.gf rfl<|Y.yy H 0 rfl<|Y.g rfl rfl (fun hg => Ev.indexAddr1 (x7 rfl) (j4 rfl) (gvE hg rfl) (gvE hg rfl) rfl (by omega))<|Y.g rfl rfl (fun hg => Ev.load1 (j6 rfl) (gvE hg rfl) (by assumption)) ?_
   refine Y.g rfl rfl (fun hg => Ev.lss (gvE hg rfl) (gvE hg rfl))<|Y.pa rfl<|OPS.nil_s ?_
   refine WP.cut [81, 82, 83, 84, 85, 86, 87, 88, 89, 90, 91, 92, 93, 94, 95, 96, 97, 98] (fun _ w' => ∃ (d stp : List Int) (fin : List Bool) (T : Nat → Int), SH w0 [] w' [⟨g13, 151, [I a, I b', I l[j].cap, I l[j].cost]⟩, ⟨gd, 3, d.map I⟩, ⟨gs, 3, stp.map I⟩, ⟨g3, 123, [I n, .slice (some ⟨b, o, none⟩) l.length cap]⟩] ∧ BFI l on n s K D rk r (fun i fw => i < j ∨ (i = j ∧ fw = true)) d stp fin T) ?_ ?_
   ·refine WP.cond rfl (fun hc14 => ?_) (fun hc14 => ?_)
    ·simp only [Bool.and_eq_true, decide_eq_true_eq] at hc14
     obtain ⟨⟨q1, q2⟩, q3⟩ := hc14
     obtain ⟨fin', T', hB2⟩ := hB.relax hS hn2 (eF q1) ham hbm (by rw [hda]; exact q2) (by rw [hda, hdb]; exact q3)
     rw [hda] at hB2
     have Hf := H
     replace H := H.reidx (L' := [⟨g13, 151, [I a, I b', I l[j].cap, I l[j].cost]⟩, ⟨g3, 123, [I n, .slice (some ⟨b, o, none⟩) l.length cap]⟩]) [0, 3] (by decide) rfl
     have hpu1 : jam (d.map I) (0 + b') [I (d[a] + l[j].cost)] = (d.set b' (d[a] + l[j].cost)).map I := by rw [Nat.zero_add, jae]
     have hpu2 : jam (stp.map I) (0 + b') [I ((j : Int) + 1)] = (stp.set b' ((j : Int) + 1)).map I := by rw [Nat.zero_add, jae]
     refine WP.rheldC [81, 82, 83, 84, 85, 86, 87, 88, 89, 90, 91, 92, 93, 94, 95, 96, 97, 98] (fun _ w' => SH w0 [] w' [⟨g13, 151, [I a, I b', I l[j].cap, I l[j].cost]⟩, ⟨gd, 3, (d.set b' (d[a] + l[j].cost)).map I⟩, ⟨gs, 3, (stp.set b' ((j : Int) + 1)).map I⟩, ⟨g3, 123, [I n, .slice (some ⟨b, o, none⟩) l.length cap]⟩]) mixed H ?_ ?_
     ·clear H; intro w hbw15 H
      refine Y.t 0 H rfl rfl (fun w H => Ev.mvS rfl)<|Y.tf 1 H rfl<|Y.tl 2 H 0 rfl<|Y.t 3 H rfl rfl (fun w H => Ev.mvS rfl)<|Y.tf 4 H rfl<|Y.tl 5 H 0 rfl<|Y.t 6 H rfl rfl (fun w H => Ev.mvS rfl)<|Y.tf 7 H rfl<|Y.tl 8 H 0 rfl<|Y.t 9 H rfl rfl (fun w H => Y.x rfl rfl rfl rfl)<|Y.tf 11 H rfl<|Y.tl 12 H 0 rfl<|Y.t 14 H rfl rfl (fun w H => Y.m rfl)<|Y.t 15 H rfl rfl (fun w H => Y.p rfl rfl)<|Y.A1 10 rfl rfl ?_
      try replace Hf := Hf.toBelow hbw15
      have hxa2 := (y9 Hf 1 rfl).atK (show a < d.length by omega)
      refine Y.v (Y.c hxa2 rfl)<|Y.z <| ⟨(H), ?_⟩
      refine Y.t 13 H rfl rfl (fun w H => Y.p rfl rfl)<|Y.t 16 H rfl rfl (fun w H => Y.x rfl rfl rfl rfl)<|Y.A1 17 rfl rfl ?_
      try replace Hf := Hf.toBelow hbw15
      refine OPS.store (vs := [I (d[a] + l[j].cost)]) 1 _ rfl rfl rfl (j4 rfl) rfl (cI rfl) rfl rfl Hf rfl (by simp only [List.length_map]; omega) ?_
      clear H Hf; intro w Hf
      simp only [List.set_cons_zero, List.set_cons_succ] at Hf
      rw [hpu1] at Hf
      have H := Hf.reidx (L' := [⟨g13, 151, [I a, I b', I l[j].cap, I l[j].cost]⟩, ⟨g3, 123, [I n, .slice (some ⟨b, o, none⟩) l.length cap]⟩]) [0, 3] (by decide) rfl
      refine Y.z <| ⟨(H), ?_⟩
      refine Y.t 18 H rfl rfl (fun w H => Y.x rfl rfl rfl rfl)<|Y.A1 19 rfl rfl ?_
      try replace Hf := Hf.toBelow hbw15
      refine OPS.store (vs := [I ((j : Int) + 1)]) 2 _ rfl rfl rfl (j4 rfl) rfl (cI rfl) rfl rfl Hf rfl (by simp only [List.length_map]; omega) ?_
      clear H Hf; intro w Hf
      simp only [List.set_cons_zero, List.set_cons_succ] at Hf
      rw [hpu2] at Hf
      have H := Hf.reidx (L' := [⟨g13, 151, [I a, I b', I l[j].cap, I l[j].cost]⟩, ⟨g3, 123, [I n, .slice (some ⟨b, o, none⟩) l.length cap]⟩]) [0, 3] (by decide) rfl
      refine Y.z <| ⟨(H), ?_⟩
      refine Y.dn ?_
      exact ⟨Y.ag, Hf⟩
     clear H
     rintro u4 w H
     have hnx : ∃ (d stp : List Int) (fin : List Bool) (T : Nat → Int), SH w0 [] w [⟨g13, 151, [I a, I b', I l[j].cap, I l[j].cost]⟩, ⟨gd, 3, d.map I⟩, ⟨gs, 3, stp.map I⟩, ⟨g3, 123, [I n, .slice (some ⟨b, o, none⟩) l.length cap]⟩] ∧ BFI l on n s K D rk r (fun i fw => i < j ∨ (i = j ∧ fw = true)) d stp fin T := ⟨_, _, fin', T', H, hB2⟩
     exact ⟨Y.ag, hnx⟩
    have hno : on[j] < l[j].cap → ¬ (dAt d a < jdd ∧ dAt d a + l[j].cost < dAt d b') := by
     rw [hda, hdb]
     rintro q1 ⟨q2, q3⟩
     have q2 : d[a] < 1099511627776 := q2
     simp [q1, q2] at hc14; omega
    have hnx : ∃ (d stp : List Int) (fin : List Bool) (T : Nat → Int), SH w0 [] w [⟨g13, 151, [I a, I b', I l[j].cap, I l[j].cost]⟩, ⟨gd, 3, d.map I⟩, ⟨gs, 3, stp.map I⟩, ⟨g3, 123, [I n, .slice (some ⟨b, o, none⟩) l.length cap]⟩] ∧ BFI l on n s K D rk r (fun i fw => i < j ∨ (i = j ∧ fw = true)) d stp fin T := by
     refine ⟨d, stp, fin, T, H, ?_⟩
     by_cases hlc : on[j] < l[j].cap
     ·exact hB.keep hn2 hS (eF hlc) (hno hlc)
     ·exact hB.mono fun i f u v r w hE hp => by
       rcases hp with hp | ⟨rfl, rfl⟩
       ·exact hp
       ·obtain ⟨_, _, q, _⟩ := hE; exact absurd (q rfl).2.2.2.1 hlc
    refine Y.k ?_
    exact ⟨Y.ag, hnx⟩
   clear H hB
   rintro u3 w ⟨d, stp, fin, T, H, hB⟩
   have hdl := hB.dlen
   have hsl := hB.stlen
   have hda : dAt d a = d[a]'(by omega) := by simp [dAt, hdl, ham]
   have hdb : dAt d b' = d[b']'(by omega) := by simp [dAt, hdl, hbm]
   have hba := hB.bds hS hn2 ham
   have hbb := hB.bds hS hn2 hbm
   rw [hda] at hba
   rw [hdb] at hbb
   refine Y.q<|WP.rstill mixed (by kernel_rfl) H ?_
   clear H; intro w hbw16 H
   obtain ⟨_, _, e1, hxa⟩ := y9 H 1 rfl a (by omega)
   cases e1
   obtain ⟨_, _, e1, hxb⟩ := y9 H 1 rfl b' (by omega)
   cases e1
   refine Y.sS rfl<|Y.a rfl<|Y.I rfl<|Y.v (Y.c (H.ld0 (by assumption)) rfl) ?_
   refine Y.v (Ev.gtr rfl rfl)<|Y.B rfl<|Y.g rfl rfl (fun hg => Ev.mvS rfl)<|Y.gf rfl<|Y.yy H 0 rfl<|Y.g rfl rfl (fun hg => Ev.indexAddr1 (x7 rfl) (j4 rfl) (gvE hg rfl) (gvE hg rfl) rfl (by omega))<|Y.g rfl rfl (fun hg => Ev.load1 (j6 rfl) (gvE hg rfl) (by assumption)) ?_
   refine Y.g rfl rfl (fun hg => Ev.lss (gvE hg rfl) rfl)<|Y.pa rfl<|Y.B rfl<|Y.g rfl rfl (fun hg => Ev.mvS rfl)<|Y.gf rfl<|Y.yy H 0 rfl<|Y.g rfl rfl (fun hg => Ev.indexAddr1 (x7 rfl) (j4 rfl) (gvE hg rfl) (gvE hg rfl) rfl (by omega))<|Y.g rfl rfl (fun hg => Ev.load1 (j6 rfl) (gvE hg rfl) (by assumption)) ?_
   refine Y.gf rfl<|Y.yy H 0 rfl<|Y.g rfl rfl (fun hg => Ev.sub (gvE hg rfl) (gvE hg rfl) (by unfold fits; omega))<|Y.g rfl rfl (fun hg => Ev.mvS rfl)<|Y.gf rfl<|Y.yy H 0 rfl<|Y.g rfl rfl (fun hg => Ev.indexAddr1 (x7 rfl) (j4 rfl) (gvE hg rfl) (gvE hg rfl) rfl (by omega))<|Y.g rfl rfl (fun hg => Ev.load1 (j6 rfl) (gvE hg rfl) (by assumption)) ?_
   refine Y.g rfl rfl (fun hg => Ev.lss (gvE hg rfl) (gvE hg rfl))<|Y.pa rfl<|OPS.nil_s ?_
   refine WP.cond rfl (fun hc16 => ?_) (fun hc16 => ?_)
   ·simp only [Bool.and_eq_true, decide_eq_true_eq] at hc16
    obtain ⟨⟨q1, q2⟩, q3⟩ := hc16
    obtain ⟨fin', T', hB2⟩ := hB.relax hS hn2 (eB q1) hbm ham (by rw [hdb]; exact q2) (by rw [hda, hdb]; omega)
    rw [hdb] at hB2
    have Hf := H
    replace H := H.reidx (L' := [⟨g13, 151, [I a, I b', I l[j].cap, I l[j].cost]⟩, ⟨g3, 123, [I n, .slice (some ⟨b, o, none⟩) l.length cap]⟩]) [0, 3] (by decide) rfl
    have hpu1 : jam (d.map I) (0 + a) [I (d[b'] - l[j].cost)] = (d.set a (d[b'] + -l[j].cost)).map I := by rw [Nat.zero_add, jae]; rfl
    have hpu2 : jam (stp.map I) (0 + a) [I (-(j : Int) - 1)] = (stp.set a (-(j : Int) - 1)).map I := by rw [Nat.zero_add, jae]
    refine WP.rheldC [128, 129, 130, 131, 132, 133, 134, 135, 136, 137, 138, 139, 140, 141, 142, 143, 144, 145, 146] (fun _ w' => SH w0 [] w' [⟨g13, 151, [I a, I b', I l[j].cap, I l[j].cost]⟩, ⟨gd, 3, (d.set a (d[b'] + -l[j].cost)).map I⟩, ⟨gs, 3, (stp.set a (-(j : Int) - 1)).map I⟩, ⟨g3, 123, [I n, .slice (some ⟨b, o, none⟩) l.length cap]⟩]) mixed H ?_ ?_
    ·clear H; intro w hbw17 H
     refine Y.t 0 H rfl rfl (fun w H => Ev.mvS rfl)<|Y.tf 1 H rfl<|Y.tl 2 H 0 rfl<|Y.t 3 H rfl rfl (fun w H => Ev.mvS rfl)<|Y.tf 4 H rfl<|Y.tl 5 H 0 rfl<|Y.t 6 H rfl rfl (fun w H => Ev.mvS rfl)<|Y.tf 7 H rfl<|Y.tl 8 H 0 rfl<|Y.t 9 H rfl rfl (fun w H => Y.x rfl rfl rfl rfl)<|Y.tf 11 H rfl<|Y.tl 12 H 0 rfl<|Y.t 14 H rfl rfl (fun w H => Y.m rfl)<|Y.t 15 H rfl rfl (fun w H => Ev.neg rfl (by unfold fits; omega))<|Y.t 16 H rfl rfl (fun w H => Y.s rfl rfl)<|Y.A1 10 rfl rfl ?_
     try replace Hf := Hf.toBelow hbw17
     have hxb2 := (y9 Hf 1 rfl).atK (show b' < d.length by omega)
     refine Y.v (Y.c hxb2 rfl)<|Y.z <| ⟨(H), ?_⟩
     refine Y.t 13 H rfl rfl (fun w H => Y.s rfl rfl)<|Y.t 17 H rfl rfl (fun w H => Y.x rfl rfl rfl rfl)<|Y.A1 18 rfl rfl ?_
     try replace Hf := Hf.toBelow hbw17
     refine OPS.store (vs := [I (d[b'] - l[j].cost)]) 1 _ rfl rfl rfl (j4 rfl) rfl (cI rfl) rfl rfl Hf rfl (by simp only [List.length_map]; omega) ?_
     clear H Hf; intro w Hf
     simp only [List.set_cons_zero, List.set_cons_succ] at Hf
     rw [hpu1] at Hf
     have H := Hf.reidx (L' := [⟨g13, 151, [I a, I b', I l[j].cap, I l[j].cost]⟩, ⟨g3, 123, [I n, .slice (some ⟨b, o, none⟩) l.length cap]⟩]) [0, 3] (by decide) rfl
     refine Y.z <| ⟨(H), ?_⟩
     refine Y.t 19 H rfl rfl (fun w H => Y.x rfl rfl rfl rfl)<|Y.A1 20 rfl rfl ?_
     try replace Hf := Hf.toBelow hbw17
     refine OPS.store (vs := [I (-(j : Int) - 1)]) 2 _ rfl rfl rfl (j4 rfl) rfl (cI rfl) rfl rfl Hf rfl (by simp only [List.length_map]; omega) ?_
     clear H Hf; intro w Hf
     simp only [List.set_cons_zero, List.set_cons_succ] at Hf
     rw [hpu2] at Hf
     have H := Hf.reidx (L' := [⟨g13, 151, [I a, I b', I l[j].cap, I l[j].cost]⟩, ⟨g3, 123, [I n, .slice (some ⟨b, o, none⟩) l.length cap]⟩]) [0, 3] (by decide) rfl
     refine Y.z <| ⟨(H), ?_⟩
     refine Y.dn ?_
     exact ⟨Y.ag, Hf⟩
    clear H
    rintro u4 w H
    have hnx : ∃ (d stp : List Int) (fin : List Bool) (T : Nat → Int), SH w0 [] w [⟨g13, 151, [I a, I b', I l[j].cap, I l[j].cost]⟩, ⟨gd, 3, d.map I⟩, ⟨gs, 3, stp.map I⟩, ⟨g3, 123, [I n, .slice (some ⟨b, o, none⟩) l.length cap]⟩] ∧ BFI l on n s K D rk r (fun i _ => i < j + 1) d stp fin T := by
     refine ⟨_, _, fin', T', H, hB2.mono fun i f u v r w _ hp => ?_⟩
     rcases Nat.lt_succ_iff_lt_or_eq.1 hp with hp | rfl
     ·exact .inl (.inl hp)
     ·cases f with
      | true => exact .inl (.inr ⟨rfl, rfl⟩)
      | false => exact .inr ⟨rfl, rfl⟩
    refine Y.r<|Y.a rfl<|Y.P rfl<|Y.bz rfl ?_
    obtain ⟨d', stp', fin', T', H', hB'⟩ := hnx
    exact ⟨Y.ag, k2 - 1, by omega, j + 1, d', stp', fin', T', by omega, rfl, H'.drop Y.sc, hB'⟩
   have hno : 0 < on[j] → ¬ (dAt d b' < jdd ∧ dAt d b' + -l[j].cost < dAt d a) := by
    rw [hda, hdb]
    rintro q1 ⟨q2, q3⟩
    have q2 : d[b'] < 1099511627776 := q2
    simp [q1, q2] at hc16; omega
   have hnx : ∃ (d stp : List Int) (fin : List Bool) (T : Nat → Int), SH w0 [] w [⟨g13, 151, [I a, I b', I l[j].cap, I l[j].cost]⟩, ⟨gd, 3, d.map I⟩, ⟨gs, 3, stp.map I⟩, ⟨g3, 123, [I n, .slice (some ⟨b, o, none⟩) l.length cap]⟩] ∧ BFI l on n s K D rk r (fun i _ => i < j + 1) d stp fin T := by
    refine ⟨d, stp, fin, T, H, ?_⟩
    by_cases hlc : 0 < on[j]
    ·refine (hB.keep hn2 hS (eB hlc) (hno hlc)).mono fun i f u v r w _ hp => ?_
     rcases Nat.lt_succ_iff_lt_or_eq.1 hp with hp | rfl
     ·exact .inl (.inl hp)
     ·cases f with
      | true => exact .inl (.inr ⟨rfl, rfl⟩)
      | false => exact .inr ⟨rfl, rfl⟩
    ·exact hB.mono fun i f u v r w hE hp => by
      rcases Nat.lt_succ_iff_lt_or_eq.1 hp with hp | rfl
      ·exact .inl hp
      ·cases f with
       | true => exact .inr ⟨rfl, rfl⟩
       | false => obtain ⟨_, _, _, q⟩ := hE; exact absurd (q rfl).2.2.2.1 hlc
   refine Y.k<|Y.r<|Y.a rfl<|Y.P rfl<|Y.bz rfl ?_
   obtain ⟨d', stp', fin', T', H', hB'⟩ := hnx
   exact ⟨Y.ag, k2 - 1, by omega, j + 1, d', stp', fin', T', by omega, rfl, H'.drop Y.sc, hB'⟩
  have hjl : j = l.length := by simp at hc11; omega
  subst hjl
  refine WP.exit<|XB.hit<|Y.r<|Y.a rfl<|Y.P rfl<|Y.bz rfl ?_
  exact ⟨Y.ag, k - 1, by omega, r + 1, d, stp, fin, T, by omega, rfl, H, hB.round hS⟩
 refine WP.exit<|XB.hit<|Y.qr<|Y.sS rfl<|Y.sS rfl<|Y.aS rfl<|Y.aS rfl<|Y.z ?_
 refine WP.ret ⟨_, rfl, ?_⟩
 have hrn : r = n := by simp at hc8; omega
 exact ⟨gd, gs, d, stp, T, rfl, hB.done hS hn2 (by omega), H.drop ((List.Sublist.cons_cons _ (List.Sublist.cons_cons _ Y.sn)))⟩
end Go.Proofs.YtgcokllbophkkaaGreat.Flo
namespace Go.Proofs.YtgcokllbophkkaaGreat.Flo
open Go Go.W Go.RowKit
theorem jkM {l : List Arc} {on stp : List Int} {v : Nat} (h : v < stp.length) {i : Nat} {fw : Bool} {u k : Nat} {q w : Int} (hE : jaZ p0 l on i fw u k q w) (hst : dAt stp v = encS i fw) : (stp.map (jbr l on)).getD v default = ⟨u, i, q, fw, true, 0⟩ := by
 rw [jld h, hst, jfn hE]
theorem refRoom (n s t : Nat) (most : Int) (A B C : Option Addr) (l : List Arc) (on stp : List Int) (cap cap2 cap3 : Nat) (ks : List Nat) (w0 : World) (hN : NetOk n l) (hV : jaP l on) (hz : ArcsAt w0 A l) (ho : k9 w0 B on) (hc : k9 w0 C stp) (hsl : stp.length = n)
  (hR : jiN l on stp n s ks t) (hks : ks.length ≤ n) :
  Calls Tryz.prog 119 #[.agg #[I n, .slice A l.length cap], .slice B on.length cap2, .slice C stp.length cap3, I s, I t, I most] w0 fun e w' => e = .returned (I (jai (stp.map (jbr l on)) ks most)) ∧ Below w0.heap.size w0 w' := by
 have H := SH.refl w0
 have hn2 := hN.n2
 have hll := hN.len
 have hol := hV.len
 refine Calls.ofWP Tryz.func119 rfl Tryz.results119 Tryz.ntmps119 rfl<|Y.qr<|Y.bx (cA rfl) H ?_
 clear H; intro g6 w H
 refine Y.bz rfl<|Y.qr<|Y.a rfl<|Y.bz rfl<|Y.qq<|Y.bz rfl<|WP.block<|WP.loop [5, 13, 14, 15, 17, 18, 19, 20, 21, 22, 23, 24, 25, 26, 27, 28, 29, 30, 31, 32, 33, 34, 35, 36, 37, 38, 39, 40, 41, 42, 43, 44, 45, 46, 47, 48, 49, 50, 51, 52, 53, 54, 55, 56, 57, 58, 59, 60, 61, 62, 63, 64, 65, 66, 67, 68, 69, 70, 71] (fun g e w' => ∃ (v k : Nat) (m : Int) (xs : List Nat), xs.length = g ∧ k + xs.length = ks.length ∧ e 13 = I v ∧ e 14 = I k ∧ e 5 = I m ∧ jiN l on stp n s xs v ∧ jai (stp.map (jbr l on)) xs m = jai (stp.map (jbr l on)) ks most ∧ SH w0 [] w' [⟨g6, 123, [I n, .slice A l.length cap]⟩]) (ks.length) (⟨t, 0, most, ks, rfl, by omega, rfl, rfl, rfl, hR, rfl, H⟩) ?_
 clear H
 rintro g u w ⟨v, k, m, xs, hg, hk, h13, h14, h5, hP, hm, H⟩
 refine WP.know (t := 13) h13 (WP.know (t := 14) h14 (WP.know (t := 5) h5 ?_))
 refine Y.qq<|Y.a rfl<|Y.W H 0 rfl<|Y.lt rfl<|Y.B rfl<|Y.gm rfl<|Y.gm rfl<|Y.g rfl rfl (fun hg => Ev.neq (gvE hg rfl) (gvE hg rfl))<|Y.pa rfl<|Y.z ?_
 refine WP.cond rfl (fun hc3 => ?_) (fun hc3 => ?_)
 ·have hvs : v ≠ s := by intro he; subst he; simp at hc3
  obtain ⟨x, xs, rfl⟩ : ∃ x xs', xs = x :: xs' := by
   cases xs with
   | nil => exact absurd hP hvs
   | cons x xs => exact ⟨x, xs, rfl⟩
  obtain ⟨rfl, _, hvn, p, i, fw, q, w1, hp, hE, hst, hP⟩ := hP
  have hsta := jkM (stp := stp) (v := v) (by omega) hE hst
  obtain ⟨hi, hi2, eF, eB⟩ := hE
  obtain ⟨b3, o3, rfl, hxs⟩ := hc v (by omega)
  have hsv : stp[v]'(by omega) = encS i fw := by rw [← hst]; simp [dAt, hsl, hvn]
  obtain ⟨b, o, rfl, hcc⟩ := hz i hi
  obtain ⟨b2, o2, rfl, hx⟩ := ho i hi2
  obtain ⟨c0, c1, c2, c3, _⟩ := hcc
  have hcap := hN.caps l[i] (List.getElem_mem _)
  have hbd := hV.bd i hi hi2
  simp only [List.length_cons] at hg hk
  have hm2 : ∀ y, jai (stp.map (jbr l on)) xs (jfa m q) = y → jai (stp.map (jbr l on)) (v :: xs) m = y := fun y hy => by rw [← hy]; simp only [jai, List.foldl_cons, hsta]
  have hm3 : jai (stp.map (jbr l on)) xs (jfa m q) = jai (stp.map (jbr l on)) ks most := by rw [← hm2 _ rfl]; exact hm
  refine Y.k<|Y.q<|WP.block<|Y.qr<|Y.sS rfl<|Y.a rfl<|Y.I rfl<|Y.v (Y.c (H.ld0 (by assumption)) rfl) ?_
  refine Y.bz rfl<|Y.qr<|Y.a rfl<|Y.v (Ev.gtr rfl rfl)<|Y.z ?_
  refine WP.cond rfl (fun hc6 => ?_) (fun hc6 => ?_)
  ·have hfw : fw = true := by
    cases fw with
    | true => rfl
    | false => rw [hsv] at hc6; unfold encS at hc6; simp at hc6 <;> omega
   obtain ⟨g1, g2, g3, g4, _⟩ := eF hfw
   have hsv1 : stp[v]'(by omega) = (i : Int) + 1 := by rw [hsv, hfw]; rfl
   rw [g1] at c0
   have hmq : m = m := rfl
   have hpar : ∃ mm, mm = jfa m q ∧ (if l[i].cap - on[i] < m then l[i].cap - on[i] else m) = mm := ⟨_, rfl, by rw [← g3]; rfl⟩
   refine Y.q<|WP.rstill mixed (by kernel_rfl) H ?_
   clear H; intro w hbw7 H
   refine Y.a rfl<|Y.W H 0 rfl<|Y.a rfl<|Y.Q rfl<|Y.v (Ev.indexAddr (j := i) (x7 rfl) (j4 rfl) rfl rfl (by omega) hi)<|Y.F rfl<|Y.v (Y.c (H.ld0 (by assumption)) rfl) ?_
   refine Y.sS rfl<|Y.a rfl<|Y.Q rfl<|Y.v (Ev.indexAddr1 (j := i) (x7 rfl) (j4 rfl) rfl rfl (by omega) hi2)<|Y.v (Y.c (H.ld0 (by assumption)) rfl) ?_
   refine Y.Q rfl<|Y.v (Ev.min rfl rfl)<|Y.b rfl<|OPS.nil_s<|Y.r<|Y.W H 0 rfl<|Y.a rfl<|Y.Q rfl<|Y.v (Ev.indexAddr (j := i) (x7 rfl) (j4 rfl) rfl rfl (by omega) hi)<|Y.F rfl<|Y.v (Y.c (H.ld0 (by assumption)) rfl) ?_
   refine Y.bz rfl<|Y.r<|Y.a rfl<|Y.P rfl<|Y.bz rfl ?_
   obtain ⟨mm, e1, e2⟩ := hpar
   exact ⟨Y.ag, xs.length, by omega, p, k + 1, jfa m q, xs, rfl, by omega, rfl, rfl, by rw [← e1, ← e2]; rfl, hP, hm3, H⟩
  have hfw : fw = false := by
   cases fw with
   | false => rfl
   | true => rw [hsv] at hc6; unfold encS at hc6; simp at hc6 <;> omega
  obtain ⟨g1, g2, g3, g4, _⟩ := eB hfw
  have hsv1 : stp[v]'(by omega) = -(i : Int) - 1 := by rw [hsv, hfw]; rfl
  rw [g1] at c1
  have hpar : ∃ mm, mm = jfa m q ∧ (if on[i] < m then on[i] else m) = mm := ⟨_, rfl, by rw [← g3]; rfl⟩
  refine Y.qr<|Y.a rfl<|Y.sS rfl<|Y.a rfl<|Y.v (Ev.neg rfl (by unfold fits; omega))<|Y.Q rfl<|Y.v (Ev.indexAddr1 (j := i) (x7 rfl) (j4 rfl) rfl rfl (by omega) hi2)<|Y.v (Y.c (H.ld0 (by assumption)) rfl) ?_
  refine Y.v (Ev.min rfl rfl)<|Y.bz rfl<|Y.r<|Y.W H 0 rfl<|Y.a rfl<|Y.v (Ev.neg rfl (by unfold fits; omega))<|Y.Q rfl<|Y.v (Ev.indexAddr (j := i) (x7 rfl) (j4 rfl) rfl rfl (by omega) hi)<|Y.F rfl<|Y.v (Y.c (H.ld0 (by assumption)) rfl) ?_
  refine Y.bz rfl<|Y.r<|Y.a rfl<|Y.P rfl<|Y.bz rfl ?_
  obtain ⟨mm, e1, e2⟩ := hpar
  exact ⟨Y.ag, xs.length, by omega, p, k + 1, jfa m q, xs, rfl, by omega, rfl, rfl, by rw [← e1, ← e2]; rfl, hP, hm3, H⟩
 refine WP.exit<|XB.hit<|Y.qr<|Y.a rfl<|Y.bz rfl ?_
 refine WP.ret ⟨_, rfl, ?_⟩
 have hvs : v = s := by
  cases xs with
  | nil => exact hP
  | cons x xs =>
   simp only [List.length_cons] at hk
   by_cases h : v = s
   ·exact h
   ·exfalso
    have h1 : ¬ ((v : Int) = s) := by omega
    have h2 : (k : Int) < n := by omega
    simp [h1, h2] at hc3
 have hxs : xs = [] := by
  cases xs with
  | nil => rfl
  | cons x xs => exact absurd hvs hP.2.1
 subst hxs
 exact ⟨by rw [← hm]; rfl, H.below⟩
theorem refPush (gon n s t : Nat) (M : Int) (A C : Option Addr) (l : List Arc) (on0 on stp : List Int) (cap cap2 cap3 : Nat) (ks : List Nat) (w0 : World) (hN : NetOk n l) (hon : on.length = l.length) (hz : ArcsAt w0 A l) (hAo : l ≠ [] → Off A [gon]) (hc : k9 w0 C stp) (hCo : stp ≠ [] → Off C [gon]) (hsl : stp.length = n)
  (hR : jiN l on0 stp n s ks t) (hks : ks.length ≤ n) (hM : 0 ≤ M ∧ M ≤ 100000000) (hob : ∀ i (h : i < on.length), -1000000000 ≤ on[i] ∧ on[i] ≤ 1000000000) (H0 : SH w0 [gon] w0 [⟨gon, 3, on.map I⟩]) :
  Calls Tryz.prog 120 #[.agg #[I n, .slice A l.length cap], .slice (some ⟨gon, 0, none⟩) on.length cap2, .slice C stp.length cap3, I s, I t, I M] w0 fun e w' => e = .returned (.tuple #[]) ∧ SH w0 [gon] w' [⟨gon, 3, (ja0 (stp.map (jbr l on0)) ks M on).map I⟩] := by
 have H := H0
 have hn2 := hN.n2
 have hll := hN.len
 refine Calls.ofWP Tryz.func120 rfl Tryz.results120 Tryz.ntmps120 rfl<|Y.qr<|Y.bx (cA rfl) H ?_
 clear H; intro g6 w H
 refine Y.z<|Y.qr<|Y.a rfl<|Y.bz rfl<|Y.qr<|Y.bz rfl<|WP.block<|WP.loop [12, 13, 14, 16, 17, 18, 19, 20, 21, 22, 23, 24, 25, 26, 27, 28, 29, 30, 31, 32, 33, 34, 35, 36, 37, 38, 39, 40, 41, 42, 43, 44, 45, 46, 47, 48, 49, 50, 51, 52, 53, 54, 55, 56, 57, 58, 59, 60, 61, 62, 63, 64, 65, 66, 67, 68, 69, 70, 71] (fun g e w' => ∃ (v k : Nat) (on' : List Int) (xs : List Nat), xs.length = g ∧ k + xs.length = ks.length ∧ e 12 = I v ∧ e 13 = I k ∧ jiN l on0 stp n s xs v ∧ on'.length = on.length ∧ ja0 (stp.map (jbr l on0)) xs M on' = ja0 (stp.map (jbr l on0)) ks M on ∧ (∀ i (h : i < on'.length), -1000000000 - 100000000 * (k : Int) ≤ on'[i] ∧ on'[i] ≤ 1000000000 + 100000000 * (k : Int)) ∧ SH w0 [gon] w' [⟨g6, 123, [I n, .slice A l.length cap]⟩, ⟨gon, 3, on'.map I⟩]) (ks.length) (⟨t, 0, on, ks, rfl, by omega, rfl, rfl, hR, rfl, rfl, fun i h => by have := hob i h; omega, H⟩) ?_
 clear H
 rintro g u w ⟨v, k, on', xs, hg, hk, h12, h13, hP, hol, hm, hob', H⟩
 refine WP.know (t := 12) h12 (WP.know (t := 13) h13 ?_)
 refine Y.qq<|Y.a rfl<|Y.W H 0 rfl<|Y.lt rfl<|Y.B rfl<|Y.gm rfl<|Y.gm rfl<|Y.g rfl rfl (fun hg => Ev.neq (gvE hg rfl) (gvE hg rfl))<|Y.pa rfl<|Y.z ?_
 refine WP.cond rfl (fun hc3 => ?_) (fun hc3 => ?_)
 ·have hvs : v ≠ s := by intro he; subst he; simp at hc3
  obtain ⟨x, xs, rfl⟩ : ∃ x xs', xs = x :: xs' := by
   cases xs with
   | nil => exact absurd hP hvs
   | cons x xs => exact ⟨x, xs, rfl⟩
  obtain ⟨rfl, _, hvn, p, i, fw, q, w1, hp, hE, hst, hP⟩ := hP
  have hsta := jkM (stp := stp) (v := v) (by omega) hE hst
  obtain ⟨hi, hi2, eF, eB⟩ := hE
  have hstl : stp ≠ [] := List.ne_nil_of_length_pos (by omega)
  have hll0 : l ≠ [] := List.ne_nil_of_length_pos (by omega)
  obtain ⟨b3, o3, rfl, hxs⟩ := hc v (by omega)
  have hb3 : b3 ∉ [gon] := hCo hstl b3 o3 rfl
  have hsv : stp[v]'(by omega) = encS i fw := by rw [← hst]; simp [dAt, hsl, hvn]
  obtain ⟨b, o, rfl, hcc⟩ := hz i hi
  have hb1 : b ∉ [gon] := hAo hll0 b o rfl
  obtain ⟨c0, c1, c2, c3, _⟩ := hcc
  have hbi := hob' i (by omega)
  simp only [List.length_cons] at hg hk
  have hgd2 : on'.getD i 0 = on'[i]'(by omega) := by simp [hol, hon, hi]
  have hii : i < on'.length := by omega
  refine Y.k<|Y.q<|WP.block<|Y.qr<|Y.sS rfl<|Y.a rfl<|Y.I rfl<|Y.v (Y.c (H.ldS (by assumption) (by assumption)) rfl) ?_
  refine Y.bz rfl<|Y.qr<|Y.a rfl<|Y.v (Ev.gtr rfl rfl)<|Y.z ?_
  refine WP.cond rfl (fun hc6 => ?_) (fun hc6 => ?_)
  ·have hfw : fw = true := by
    cases fw with
    | true => rfl
    | false => rw [hsv] at hc6; unfold encS at hc6; simp at hc6 <;> omega
   obtain ⟨g1, g2, g3, g4, _⟩ := eF hfw
   have hsv1 : stp[v]'(by omega) = (i : Int) + 1 := by rw [hsv, hfw]; rfl
   rw [g1] at c0
   have hp1 : jb8 (stp.map (jbr l on0)) M on' v = on'.set i (on'[i] + M) := by simp only [jb8, hsta, Int.toNat_natCast, hgd2, hfw, if_true]
   refine Y.qr ?_
   have hxc := (y9 H 1 rfl).atK (show i < on'.length by omega)
   refine Y.sS rfl<|Y.a rfl<|Y.Q rfl<|Y.sS rfl<|Y.a rfl<|Y.Q rfl<|Y.v (Ev.indexAddr1 (j := i) (x7 rfl) (j4 rfl) rfl rfl (by omega) (by omega))<|Y.v (Y.c (by assumption) rfl) ?_
   refine Y.a rfl<|Y.P rfl<|Y.v (Ev.indexAddr1 (j := i) (x7 rfl) (j4 rfl) rfl rfl (by omega) (by omega)) ?_
   have hpu : jam (on'.map I) (0 + i) [I (on'[i] + M)] = (on'.set i (on'[i] + M)).map I := by rw [Nat.zero_add, jae]
   refine OPS.store (vs := [I (on'[i] + M)]) 1 _ rfl rfl rfl (j4 rfl) rfl (cI rfl) rfl rfl H rfl (by simp only [List.length_map]; omega) ?_
   clear H; intro w H
   simp only [List.set_cons_zero, List.set_cons_succ] at H
   rw [hpu, ← hp1] at H
   refine Y.z<|Y.r<|Y.W H 0 rfl<|Y.a rfl<|Y.Q rfl<|Y.v (Ev.indexAddr (j := i) (x7 rfl) (j4 rfl) rfl rfl (by omega) hi)<|Y.F rfl<|Y.v (Y.c (H.ldS (by assumption) (by assumption)) rfl) ?_
   refine Y.bz rfl<|Y.r<|Y.a rfl<|Y.P rfl<|Y.bz rfl ?_
   refine ⟨Y.ag, xs.length, by omega, p, k + 1, jb8 (stp.map (jbr l on0)) M on' v, xs, rfl, by omega, rfl, rfl, hP, by rw [jaW]; exact hol, by rw [← hm]; simp only [ja0, List.foldl_cons], fun y hy => ?_, H⟩
   have hy2 : y < on'.length := by rw [jaW] at hy; exact hy
   have hh := hob' y hy2
   simp only [hp1, List.getElem_set]
   split
   ·rename_i he; subst he; omega
   ·omega
  have hfw : fw = false := by
   cases fw with
   | false => rfl
   | true => rw [hsv] at hc6; unfold encS at hc6; simp at hc6 <;> omega
  obtain ⟨g1, g2, g3, g4, _⟩ := eB hfw
  have hsv1 : stp[v]'(by omega) = -(i : Int) - 1 := by rw [hsv, hfw]; rfl
  rw [g1] at c1
  have hp1 : jb8 (stp.map (jbr l on0)) M on' v = on'.set i (on'[i] - M) := by simp only [jb8, hsta, Int.toNat_natCast, hgd2, hfw]; rfl
  refine Y.qr ?_
  have hxc := (y9 H 1 rfl).atK (show i < on'.length by omega)
  refine Y.sS rfl<|Y.a rfl<|Y.v (Ev.neg rfl (by unfold fits; omega))<|Y.Q rfl<|Y.sS rfl<|Y.a rfl<|Y.v (Ev.neg rfl (by unfold fits; omega))<|Y.Q rfl<|Y.v (Ev.indexAddr1 (j := i) (x7 rfl) (j4 rfl) rfl rfl (by omega) (by omega))<|Y.v (Y.c (by assumption) rfl) ?_
  refine Y.a rfl<|Y.Q rfl<|Y.v (Ev.indexAddr1 (j := i) (x7 rfl) (j4 rfl) rfl rfl (by omega) (by omega)) ?_
  have hpu : jam (on'.map I) (0 + i) [I (on'[i] - M)] = (on'.set i (on'[i] - M)).map I := by rw [Nat.zero_add, jae]
  refine OPS.store (vs := [I (on'[i] - M)]) 1 _ rfl rfl rfl (j4 rfl) rfl (cI rfl) rfl rfl H rfl (by simp only [List.length_map]; omega) ?_
  clear H; intro w H
  simp only [List.set_cons_zero, List.set_cons_succ] at H
  rw [hpu, ← hp1] at H
  refine Y.z<|Y.r<|Y.W H 0 rfl<|Y.a rfl<|Y.v (Ev.neg rfl (by unfold fits; omega))<|Y.Q rfl<|Y.v (Ev.indexAddr (j := i) (x7 rfl) (j4 rfl) rfl rfl (by omega) hi)<|Y.F rfl<|Y.v (Y.c (H.ldS (by assumption) (by assumption)) rfl) ?_
  refine Y.bz rfl<|Y.r<|Y.a rfl<|Y.P rfl<|Y.bz rfl ?_
  refine ⟨Y.ag, xs.length, by omega, p, k + 1, jb8 (stp.map (jbr l on0)) M on' v, xs, rfl, by omega, rfl, rfl, hP, by rw [jaW]; exact hol, by rw [← hm]; simp only [ja0, List.foldl_cons], fun y hy => ?_, H⟩
  have hy2 : y < on'.length := by rw [jaW] at hy; exact hy
  have hh := hob' y hy2
  simp only [hp1, List.getElem_set]
  split
  ·rename_i he; subst he; omega
  ·omega
 refine WP.exit<|XB.hit <| ⟨_, rfl, ?_⟩
 have hvs : v = s := by
  cases xs with
  | nil => exact hP
  | cons x xs =>
   simp only [List.length_cons] at hk
   by_cases h : v = s
   ·exact h
   ·exfalso
    have h1 : ¬ ((v : Int) = s) := by omega
    have h2 : (k : Int) < n := by omega
    simp [h1, h2] at hc3
 have hxs : xs = [] := by
  cases xs with
  | nil => rfl
  | cons x xs => exact absurd hvs hP.2.1
 subst hxs
 rw [← hm]
 exact ⟨rfl, H.drop Y.sc⟩
end Go.Proofs.YtgcokllbophkkaaGreat.Flo
namespace Go.Proofs.YtgcokllbophkkaaGreat.Flo
open Go Go.W Go.RowKit
structure FillR (m s t : Nat) (l : List Arc) (most : Int) (on : List Int) (amt : Int) : Prop where
 flow : IsFlow m l s t on amt
 opt : ∃ pots : List Int, pots.length = m ∧ pots.getD s 0 = 0 ∧ OptPot (potF pots) l on
 le : 0 ≤ amt ∧ amt ≤ most
 fin : amt = most ∨ jcK m l s t amt
theorem costOf_bd' {n : Nat} {l : List Arc} {on : List Int} (hN : NetOk n l) (hV : jaP l on) : 0 ≤ costOf l on ∧ costOf l on ≤ 2199023255552 := by
 have h := costOf_bd hN hV l.length (Nat.le_refl _)
 rw [List.take_length, ← hV.len, List.take_length, hV.len] at h
 have := hN.len
 omega
theorem jfh : ∀ l : List Arc, costOf l (List.replicate l.length 0) = 0
 | [] => rfl
 | a :: l => by simp only [List.length_cons, List.replicate_succ, costOf]; rw [jfh l]; simp
theorem zget (m s : Nat) : (List.replicate m (0 : Int)).getD s 0 = 0 := by by_cases h : s < m <;> simp [h]
theorem jgw (m s t : Nat) (most : Int) (A : Option Addr) (l : List Arc) (cap : Nat) (w0 : World) (hN : NetOk m l) (hs : s < m) (ht : t < m) (hst : s ≠ t) (hmo : 0 ≤ most ∧ most ≤ 33554432) (hz : ArcsAt w0 A l) :
  Calls Tryz.prog 95 #[.agg #[I m, .slice A l.length cap], I s, I t, I most] w0 fun e w' => ∃ (gon : Nat) (on : List Int) (amt : Int), e = .returned (.tuple #[.slice (some ⟨gon, 0, none⟩) l.length l.length, I amt, I (costOf l on)]) ∧ FillR m s t l most on amt ∧ SH w0 [] w' [⟨gon, 3, on.map I⟩] := by
 have H := SH.refl w0
 have hn2 := hN.n2
 have hll := hN.len
 refine Calls.ofWP Tryz.func95 rfl Tryz.results95 Tryz.ntmps95 rfl<|Y.qr<|Y.bx (cA rfl) H ?_
 clear H; intro g4 w H
 refine Y.aS rfl<|Y.b rfl<|Y.bz rfl<|Y.qr<|Y.W H 0 rfl<|Y.E rfl<|Y.M H rfl ?_
 clear H; intro g20 w H
 refine Y.aS rfl<|Y.z<|Y.qr<|Y.b rfl<|Y.bz rfl<|Y.q<|WP.block<|WP.loop [12, 13, 14, 15, 16, 21, 22, 23, 24, 25, 26, 27, 28, 29, 30, 31, 32, 33, 34, 35, 36, 37, 38, 39, 40, 41, 42, 43, 44, 45, 46, 47, 48, 49, 50, 51, 52, 53, 54, 55, 56, 57, 58, 59, 60, 61, 62] (fun k e w' => ∃ (on pots : List Int) (amt : Int), on.length = l.length ∧ e 12 = I amt ∧ e 13 = I (costOf l on) ∧ IsFlow m l s t on amt ∧ pots.length = m ∧ pots.getD s 0 = 0 ∧ OptPot (potF pots) l on ∧ 0 ≤ amt ∧ amt ≤ most ∧ amt + k = most ∧ SH w0 [] w' [⟨g20, 3, on.map I⟩, ⟨g4, 123, [I m, .slice A l.length cap]⟩]) (most.toNat) (⟨List.replicate l.length 0, List.replicate m 0, 0, by simp, rfl, by rw [jfh]; rfl, jcL fun a ha => (hN.caps a ha).1.1, by simp, zget m s, jiv fun a ha => (hN.caps a ha).2.1, by omega, hmo.1, by omega, by rw [← jag]; exact H⟩) ?_
 clear H
 rintro k u w ⟨on, pots, amt, hol, h12, h13, hfl, hpl, hp0, hop, ha0, ha1, hk, H⟩
 refine WP.know (t := 12) h12 (WP.know (t := 13) h13 ?_)
 have hcb := costOf_bd' hN hfl.v
 refine Y.qq<|Y.a rfl<|Y.a rfl<|Y.lt rfl<|Y.z ?_
 refine WP.cond rfl (fun hc3 => ?_) (fun hc3 => ?_)
 ·have hlt : amt < most := by simpa using hc3
  obtain ⟨nst, ndist, nrk, hnr⟩ := jhR hN.nodes hll (fun a ha => (hN.caps a ha).2) hop hol hs hp0
  have hsp := hnr.sp hp0 fun a ha => (hN.caps a ha).2
  have hob : ∀ i (h : i < on.length), 0 ≤ on[i] ∧ on[i] ≤ 65536 := fun i h => by
   have h1 := hfl.v.bd i (by omega) h
   have h2 := (hN.caps l[i] (List.getElem_mem (by omega))).1
   omega
  refine Y.k<|WP.block<|Y.qr<|Y.O H 1 rfl<|Y.sS rfl<|Y.a rfl ?_
  have hch := jmj m s A (some ⟨g20, 0, none⟩) l on cap l.length _ _ _ w hN hs hfl.v (hz.sh H) (y9 H 0 rfl) hsp
  rw [hol] at hch
  refine Y.c2 28 rfl (hch) ?_
  rintro _ w ⟨gd, gs, d, stp, T, rfl, hcr, Hc⟩
  refine ⟨_, rfl, ?_⟩
  replace H := SH.call (L1 := [⟨g20, 3, on.map I⟩, ⟨g4, 123, [I m, .slice A l.length cap]⟩]) (Lv := []) (by simpa using H) Hc
  clear Hc hch
  simp only [List.cons_append, List.nil_append] at H
  have hdl := hcr.dlen
  have hsl := hcr.stlen
  have hdt : dAt d t = d[t]'(by omega) := by simp [dAt, hdl, ht]
  refine Y.T rfl<|Y.G rfl<|Y.G rfl<|Y.aS rfl<|Y.aS rfl<|Y.z<|Y.qq ?_
  obtain ⟨_, _, e1, hdc⟩ := y9 H 2 rfl t (by omega)
  cases e1
  refine Y.sS rfl<|Y.a rfl<|Y.I rfl<|Y.v (Y.c (by assumption) rfl) ?_
  refine Y.v (Ev.geq rfl rfl)<|Y.z ?_
  refine WP.cond rfl (fun hc5 => ?_) (fun hc5 => ?_)
  ·have hkf : kn nst t = false := by
    cases hk2 : kn nst t with
    | false => rfl
    | true =>
     have := hcr.kd t ht hk2
     rw [hdt] at this
     simp at hc5
     unfold jdd at this; omega
   have hend : amt = most ∨ jcK m l s t amt := .inr (jlt hN.nodes hs hfl (hcr.resSet hN.nodes hol hs) hkf)
   refine WP.exit<|XB.miss rfl<|XB.hit<|Y.qr<|Y.sS rfl<|Y.a rfl<|Y.a rfl<|Y.aS rfl<|Y.b rfl<|Y.bz rfl ?_
   refine WP.ret ⟨_, rfl, ?_⟩
   exact ⟨g20, on, amt, rfl, ⟨hfl, ⟨pots, hpl, hp0, hop⟩, ⟨ha0, ha1⟩, hend⟩, by exact H.reidx [0] (by decide) rfl⟩
  have hkt : kn nst t = true := by
   cases hk2 : kn nst t with
   | true => rfl
   | false =>
    have := hcr.unk t ht hk2
    rw [hdt] at this
    simp at hc5
    unfold jdd at this; omega
  obtain ⟨ks, hkl, hR, hP, hks⟩ := hcr.path m t ht hkt (hcr.tb t ht hkt).2
  obtain ⟨m1, m2, m3⟩ := jbz (stp.map (jbr l on)) ks (most - amt) (by omega) fun x hx => by obtain ⟨p, _, hE⟩ := hP.edge x hx; exact hE.room_pos
  have hfl2 := jcj (by omega) hst hP m3 hfl
  have hop2 := CR.push_opt hnr hcr hop hN.nodes hpl hol hks (jai (stp.map (jbr l on)) ks (most - amt))
  have hpc := hcr.push_cost hfl.v hP hks (by omega) m3
  have hDt := (hcr.kd t ht hkt).1
  have hDb := hsp.bd t ht hkt
  have hpb := costOf_bd' hN hfl2.v
  rw [← hDt, hdt] at hpc
  have hnl := jdC nst ndist (jb2 nst ndist m) pots
  have hn0 : (jdb nst ndist (jb2 nst ndist m) pots).getD s 0 = 0 := by rw [jdD (by omega), if_pos hnr.src.1, hnr.src.2, hp0]; rfl
  have hrm := fun w (H : SH w0 [] w [⟨g20, 3, on.map I⟩, ⟨g4, 123, [I m, .slice A l.length cap]⟩, ⟨gd, 3, d.map I⟩, ⟨gs, 3, stp.map I⟩]) => refRoom m s t (most - amt) A (some ⟨g20, 0, none⟩) (some ⟨gs, 0, none⟩) l on stp cap l.length m ks w hN hfl.v (hz.sh H) (y9 H 0 rfl) (y9 H 3 rfl) hsl hR hkl
  rw [hol, hsl] at hrm
  generalize hMM : jai (stp.map (jbr l on)) ks (most - amt) = M at *
  refine Y.k<|Y.qr<|Y.O H 1 rfl<|Y.sS rfl<|Y.sS rfl<|Y.a rfl<|Y.a rfl<|Y.a rfl<|Y.a rfl<|Y.Q rfl<|Y.cl 44 rfl (hrm w H) H ?_
  clear H; intro w H
  refine Y.bz rfl<|Y.qr<|Y.O H 1 rfl<|Y.sS rfl<|Y.sS rfl<|Y.a rfl<|Y.a rfl<|Y.a rfl ?_
  have hgs : gs ≠ g20 := by have := H.nodup; simp at this; exact fun he => by subst he; simp at this
  have hpu := refPush g20 m s t M A (some ⟨gs, 0, none⟩) l on on stp cap l.length m ks w hN hol (hz.sh H) (hz.off (fun _ => by simp [arcCells]) (fun g hg => by simp at hg; rw [hg]; exact H.fresh g20 (by simp))) (y9 H 3 rfl) (fun _ b o he => by cases he; simpa using hgs) hsl hR hkl (by omega) (fun i h => by have := hob i h; omega) ((H.reidx (L' := [⟨g20, 3, on.map I⟩]) [0] (by decide) rfl).restart (List.Sublist.refl _))
  rw [hol, hsl] at hpu
  refine Y.c2 51 rfl (hpu) ?_
  rintro _ w ⟨rfl, Hc⟩
  refine ⟨_, rfl, ?_⟩
  replace H := SH.call (L1 := [⟨g4, 123, [I m, .slice A l.length cap]⟩, ⟨gd, 3, d.map I⟩, ⟨gs, 3, stp.map I⟩]) (Lv := [⟨g20, 3, on.map I⟩]) (H.reidx [1, 2, 3, 0] (by decide) rfl) Hc
  clear Hc hpu
  refine Y.z<|WP.rstill mixed (by kernel_rfl) H ?_
  clear H; intro w hbw8 H
  obtain ⟨_, _, e1, hdc⟩ := y9 H 1 rfl t (by omega)
  cases e1
  refine Y.a rfl<|Y.a rfl<|Y.P rfl<|Y.a rfl<|Y.a rfl<|Y.sS rfl<|Y.a rfl<|Y.I rfl<|Y.v (Y.c (by assumption) rfl) ?_
  refine Y.v (Ev.mul rfl rfl (by unfold fits; omega))<|Y.P rfl<|Y.b rfl<|Y.b rfl<|OPS.nil_s ?_
  exact ⟨Y.ag, k - M.toNat, by omega, _, _, amt + M, by rw [jbo]; exact hol, rfl, by rw [hpc]; rfl, hfl2, by rw [hnl]; exact hpl, hn0, hop2, by omega, by omega, by omega, H.reidx [3, 0] (by decide) rfl⟩
 have hend : amt = most ∨ jcK m l s t amt := .inl (by simp at hc3; omega)
 refine WP.exit<|XB.hit<|Y.qr<|Y.sS rfl<|Y.a rfl<|Y.a rfl<|Y.aS rfl<|Y.b rfl<|Y.bz rfl ?_
 refine WP.ret ⟨_, rfl, ?_⟩
 exact ⟨g20, on, amt, rfl, ⟨hfl, ⟨pots, hpl, hp0, hop⟩, ⟨ha0, ha1⟩, hend⟩, by exact H.reidx [0] (by decide) rfl⟩
end Go.Proofs.YtgcokllbophkkaaGreat.Flo
namespace Go.Proofs.YtgcokllbophkkaaGreat.Flo
open Go Go.W Go.RowKit
theorem jiq {n s t : Nat} {l : List Arc} (hN : NetOk n l) (hs : s < n) (ht : t < n) (hst : s ≠ t) : ∀ (k : Nat) (on : List Int) (amt : Int), IsFlow n l s t on amt → 65536 * (l.length : Int) - amt ≤ k → ∃ mx, jcK n l s t mx
 | 0, on, amt, hf, hk => ⟨amt, ji2 hN.nodes hs ht hst hf fun on' amt' hf' => by have := jjD hN ⟨by omega, by omega⟩ (by omega) hf'; omega⟩
 | k + 1, on, amt, hf, hk => by
  have hsp := jcM (s := s) (on := on) hN.nodes hf.v.len hs
  cases hkt : kn (jb6 l on n s) t with
  | false => exact ⟨amt, jcE hN.nodes hs hsp hf hkt⟩
  | true =>
   obtain ⟨ks, _, hP⟩ := jfk hsp.tree n t ht hkt (hsp.pos t ht hkt).2
   obtain ⟨m1, m2, m3⟩ := jbz (jb6 l on n s) ks 1 (by omega) fun x hx => by obtain ⟨p, _, hE⟩ := hP.edge x hx; exact hE.room_pos
   exact jiq hN hs ht hst k _ _ (jcj (by omega) hst hP m3 hf) (by omega)
theorem jiG {n s t : Nat} {l : List Arc} (hN : NetOk n l) (hs : s < n) (ht : t < n) (hst : s ≠ t) : ∃ mx, jcK n l s t mx :=
 jiq hN hs ht hst (65536 * l.length) _ 0 (jcL fun a ha => (hN.caps a ha).1.1) (by omega)
theorem jcK.ge {n s t : Nat} {l : List Arc} {mx : Int} (h : jcK n l s t mx) (hn : jar n l) (hs : s < n) {on : List Int} {amt : Int} (hf : IsFlow n l s t on amt) : amt ≤ mx := by
 obtain ⟨_, S, h1, h2, h3⟩ := h
 rw [← h3]; exact jdf hf hn ⟨by omega, by omega⟩ h1 h2
structure CostRet (n f t amt : Int) (l : List Arc) (most c er : Int) : Prop where
 mst : MostRet n f t l most (endsErr n l f t)
 err : er = cheapErr n f t amt l most
 bad : er ≠ 0 → c = 0
 good : er = 0 → ∃ m s d : Nat, jlk n f t l m s d ∧ IsLeast m l s d amt c
theorem refCost (n f t amt : Int) (A : Option Addr) (l : List Arc) (cap : Nat) (w0 : World) (hz : ArcsAt w0 A l) :
  Calls Tryz.prog 94 #[.agg #[I n, .slice A l.length cap], I f, I t, I amt] w0 fun e w' => ∃ most c er : Int, e = .returned (.tuple #[I c, I er]) ∧ CostRet n f t amt l most c er ∧ Below w0.heap.size w0 w' := by
 have H := SH.refl w0
 refine Calls.ofWP Tryz.func94 rfl Tryz.results94 Tryz.ntmps94 rfl<|Y.qr<|Y.bx (cA rfl) H ?_
 clear H; intro g4 w H
 refine Y.b rfl<|Y.bz rfl<|Y.qq<|Y.O H 0 rfl<|Y.a rfl<|Y.a rfl<|Y.cl 17 rfl (refEnds n f t A l cap w (hz.sh H)) H ?_
 clear H; intro w H
 refine Y.bz rfl<|Y.qr<|Y.a rfl<|Y.V rfl<|Y.z ?_
 refine WP.cond rfl (fun hc2 => ?_) (fun hc2 => ?_)
 ·refine Y.qr<|Y.a rfl<|Y.b rfl<|Y.bz rfl ?_
  refine WP.ret ⟨_, rfl, ?_⟩
  have h : endsErr n l f t ≠ 0 := by simpa using hc2
  exact ⟨0, 0, _, rfl, ⟨⟨rfl, fun _ => rfl, fun h0 => absurd h0 h⟩, by rw [cheapErr, if_pos h], fun _ => rfl, fun h0 => absurd h0 h⟩, H.below⟩
 have h0 : endsErr n l f t = 0 := by simpa using hc2
 obtain ⟨m, s, d, hE⟩ := je2 h0
 have e1 := hE.hn
 have e2 := hE.hf
 have e3 := hE.ht
 subst e1 e2 e3
 have hN := hE.net
 obtain ⟨mx, hmx⟩ := jiG hN hE.s1 hE.d1 hE.ne
 have hMR : MostRet m s d l mx (endsErr m l s d) := ⟨rfl, fun h => absurd h0 h, fun _ => ⟨m, rfl, hmx⟩⟩
 refine Y.k<|Y.qq<|Y.a rfl<|Y.lt rfl<|Y.B rfl<|Y.gm rfl<|Y.g rfl rfl (fun hg => Ev.gtr (gvE hg rfl) rfl)<|Y.po rfl<|Y.z ?_
 refine WP.cond rfl (fun hc4 => ?_) (fun hc4 => ?_)
 ·refine Y.qr<|Y.b rfl<|Y.bz rfl ?_
  refine WP.ret ⟨_, rfl, ?_⟩
  exact ⟨mx, 0, 1, rfl, ⟨hMR, by rw [cheapErr, if_neg (by simp [h0]), if_pos hc4], fun _ => rfl, fun h => by cases h⟩, H.below⟩
 have ham : 0 ≤ amt ∧ amt ≤ 65536 := by simp at hc4; omega
 refine Y.k<|Y.qr<|Y.O H 0 rfl<|Y.a rfl<|Y.a rfl<|Y.a rfl<|Y.c2 32 rfl (jgw m s d amt A l cap w hE.net hE.s1 hE.d1 hE.ne (by omega) (hz.sh H)) ?_
 rintro _ w ⟨gon, on, got, rfl, hF, Hc⟩
 refine ⟨_, rfl, ?_⟩
 replace H := SH.call (Lv := []) (by simpa using H) Hc
 clear Hc
 have hge := hmx.ge hN.nodes hE.s1 hF.flow
 refine Y.T rfl<|Y.G rfl<|Y.G rfl<|Y.G rfl<|Y.aS rfl<|Y.b rfl<|Y.bz rfl<|Y.qq<|Y.a rfl<|Y.a rfl<|Y.lt rfl<|Y.z ?_
 refine WP.cond rfl (fun hc7 => ?_) (fun hc7 => ?_)
 ·refine Y.qr<|Y.b rfl<|Y.bz rfl ?_
  refine WP.ret ⟨_, rfl, ?_⟩
  have hlt : got < amt := by simpa using hc7
  have hm2 : mx = got := by
   rcases hF.fin with he | he
   ·omega
   ·exact jcK.unique hN.nodes ⟨by omega, by have := hE.s1; omega⟩ hmx he
  exact ⟨mx, 0, 15, rfl, ⟨hMR, by rw [cheapErr, if_neg (by simp [h0]), if_neg (by simp [hc4]), if_pos (by omega)], fun _ => rfl, fun h => by cases h⟩, H.below⟩
 refine Y.k<|Y.qr<|Y.a rfl<|Y.b rfl<|Y.bz rfl ?_
 refine WP.ret ⟨_, rfl, ?_⟩
 have hga : got = amt := by simp at hc7; have := hF.le; omega
 subst hga
 obtain ⟨pots, _, _, hop⟩ := hF.opt
 exact ⟨mx, costOf l on, 0, rfl, ⟨hMR, by rw [cheapErr, if_neg (by simp [h0]), if_neg (by simp [hc4]), if_neg (by omega)], fun h => absurd rfl h, fun _ => ⟨m, s, d, hE, jmb hF.flow hop hN.nodes ⟨by omega, by have := hE.s1; omega⟩ ⟨by omega, by have := hE.d1; omega⟩ (by have := hE.ne; omega)⟩⟩, H.below⟩
end Go.Proofs.YtgcokllbophkkaaGreat.Flo
namespace Go.Proofs.YtgcokllbophkkaaGreat.Flo
open Go Go.W Go.RowKit
def PB (n : Nat) (p : List Int) (B : Int) : Prop := p.length = n ∧ ∀ v (h : v < p.length), -B ≤ p[v] ∧ p[v] ≤ 0
theorem PB.mono {n : Nat} {p : List Int} {B B' : Int} (h : PB n p B) (hb : B ≤ B') : PB n p B' := ⟨h.1, fun v hv => by have := h.2 v hv; omega⟩
theorem PB.set {n : Nat} {p : List Int} {B B' : Int} {v : Nat} {x : Int} (h : PB n p B) (hx : -B' ≤ x ∧ x ≤ 0) (hb : B ≤ B') : PB n (p.set v x) B' :=
 ⟨by rw [List.length_set]; exact h.1, fun u hu => by
  rw [List.getElem_set]
  split
  ·exact hx
  ·have := h.2 u (by simpa using hu); omega⟩
theorem PB.init (n : Nat) : PB n (List.replicate n 0) 0 := ⟨by simp, fun v h => by simp⟩
theorem jgj (n : Nat) (A B : Option Addr) (l : List Arc) (on : List Int) (cap cap2 : Nat) (w0 : World) (hN : NetOk n l) (hol : on.length = l.length) (hz : ArcsAt w0 A l) (ho : k9 w0 B on) :
  Calls Tryz.prog 96 #[.agg #[I n, .slice A l.length cap], .slice B on.length cap2] w0 fun e w' => ∃ (gd : Nat) (p : List Int), e = .returned (.slice (some ⟨gd, 0, none⟩) n n) ∧ PB n p 2181038080 ∧ SH w0 [] w' [⟨gd, 3, p.map I⟩] := by
 have H := SH.refl w0
 have hn2 := hN.n2
 have hll := hN.len
 refine Calls.ofWP Tryz.func96 rfl Tryz.results96 Tryz.ntmps96 rfl<|Y.qr<|Y.bx (cA rfl) H ?_
 clear H; intro g2 w H
 refine Y.aS rfl<|Y.z<|Y.qr<|Y.W H 0 rfl<|Y.M H rfl ?_
 clear H; intro g11 w H
 refine Y.aS rfl<|Y.z<|Y.qq<|Y.bz rfl<|WP.block<|WP.loop [6, 7, 8, 12, 13, 14, 15, 16, 17, 18, 19, 20, 21, 22, 23, 24, 25, 26, 27, 28, 29, 30, 31, 32, 33, 34, 35, 36, 37, 38, 39, 40, 41, 42, 43, 44, 45, 46, 47, 48, 49, 50, 51, 52, 53, 54, 55, 56, 57, 58, 59, 60, 61, 62, 63, 64, 65, 66, 67, 68, 69, 70, 71, 72, 73, 74, 75, 76, 77] (fun k e w' => ∃ (r : Nat) (p : List Int), r + k = n + 1 ∧ e 6 = I r ∧ SH w0 [] w' [⟨g11, 3, p.map I⟩, ⟨g2, 123, [I n, .slice A l.length cap]⟩] ∧ PB n p (33554432 * (r : Int))) (n + 1) (⟨0, List.replicate n 0, by omega, rfl, by rw [← jag]; exact H, PB.init n⟩) ?_
 clear H
 rintro k u w ⟨r, p, hk, h6, H, hP⟩
 refine WP.know (t := 6) h6<|Y.qq<|Y.a rfl<|Y.W H 1 rfl<|Y.v (Ev.leq rfl rfl)<|Y.z ?_
 refine WP.cond rfl (fun hc3 => ?_) (fun hc3 => ?_)
 ·have hrn : r ≤ n := by simp at hc3; omega
  refine Y.k<|Y.q<|WP.block<|Y.qr<|Y.bz rfl<|WP.block<|WP.loop [7, 8, 18, 19, 20, 21, 22, 23, 24, 25, 26, 27, 28, 29, 30, 31, 32, 33, 34, 35, 36, 37, 38, 39, 40, 41, 42, 43, 44, 45, 46, 47, 48, 49, 50, 51, 52, 53, 54, 55, 56, 57, 58, 59, 60, 61, 62, 63, 64, 65, 66, 67, 68, 69, 70, 71, 72, 73, 74, 75, 76, 77] (fun k2 e w' => ∃ (j : Nat) (p : List Int), j + k2 = l.length ∧ e 7 = I j ∧ SH w0 [] w' [⟨g11, 3, p.map I⟩, ⟨g2, 123, [I n, .slice A l.length cap]⟩] ∧ PB n p (33554432 * (r : Int) + 65536 * (j : Int))) (l.length) (⟨0, p, by omega, rfl, H, hP.mono (by omega)⟩) ?_
  clear H hP
  rintro k2 u2 w ⟨j, p, hk2, h7, H, hP⟩
  refine WP.know (t := 7) h7<|Y.qq<|Y.a rfl<|Y.W H 1 rfl<|Y.E rfl<|Y.lt rfl<|Y.z ?_
  refine WP.cond rfl (fun hc6 => ?_) (fun hc6 => ?_)
  ·have hlt : j < l.length := by simp at hc6; omega
   have hlt2 : j < on.length := by omega
   obtain ⟨b, o, rfl, hc⟩ := hz j hlt
   obtain ⟨b2, o2, rfl, hx⟩ := ho j hlt2
   have hc' := k7 H hc
   have h2 := hN.caps l[j] (List.getElem_mem _)
   obtain ⟨a, b', ham, hbm, hfa, htb, _, _⟩ := jdi (on := on) hN.nodes hlt hlt2 p0
   refine Y.k<|Y.q<|WP.block<|Y.qr<|Y.W H 1 rfl<|Y.a rfl<|Y.U rfl<|Y.v (by (change Ev _ _ _ _ (Op.load 151 (Operand.tmp 28)) _; exact Ev.loadN (arcCells l[j]) (j6 rfl) (j4 rfl) rfl hc'))<|Y.al H rfl rfl ?_
   clear H; intro g8 w H
   refine Y.ss 0 H rfl (cA rfl) rfl ?_
   clear H; intro w H
   refine Y.z<|Y.q<|Y.q ?_
   rw [show arcCells l[j] = [I a, I b', I l[j].cap, I l[j].cost] from by unfold arcCells; rw [hfa, htb]] at H
   refine WP.rstill mixed (by kernel_rfl) H ?_
   clear H; intro w hbw9 H
   refine Y.sS rfl<|Y.a rfl<|Y.I rfl<|Y.v (Y.c (H.ld0 (by assumption)) rfl) ?_
   refine Y.W H 0 rfl<|Y.lt rfl<|OPS.nil_s ?_
   refine WP.cut [37, 38, 39, 40, 41, 42, 43, 44, 45, 46, 47, 48, 49, 50, 51, 52, 53, 54] (fun _ w' => ∃ (p : List Int), SH w0 [] w' [⟨g8, 151, [I a, I b', I l[j].cap, I l[j].cost]⟩, ⟨g11, 3, p.map I⟩, ⟨g2, 123, [I n, .slice (some ⟨b, o, none⟩) l.length cap]⟩] ∧ PB n p (33554432 * (r : Int) + 65536 * (j : Int))) ?_ ?_
   ·refine WP.cond rfl (fun hc9 => ?_) (fun hc9 => ?_)
    ·have hpl := hP.1
     have hpu : ∀ v x, jam (p.map I) (0 + v) [I x] = (p.set v x).map I := fun v x => by rw [Nat.zero_add, jae]
     have hpa := hP.2 a (by omega)
     have hpb := hP.2 b' (by omega)
     refine WP.rtail 18 mixed (by kernel_rfl) H ?_
     clear H; intro w hbw10 H
     obtain ⟨_, _, e1, hxa⟩ := y9 H 1 rfl a (by omega)
     cases e1
     obtain ⟨_, _, e1, hxb⟩ := y9 H 1 rfl b' (by omega)
     cases e1
     refine Y.sS rfl<|Y.W H 0 rfl<|Y.sS rfl<|Y.W H 0 rfl<|Y.I rfl<|Y.v (Y.c (by assumption) rfl) ?_
     refine Y.sS rfl<|Y.W H 0 rfl<|Y.I rfl<|Y.v (Y.c (by assumption) rfl) ?_
     refine Y.W H 0 rfl<|Y.P rfl<|Y.v (Ev.min rfl rfl)<|Y.I rfl<|OPS.nil_s<|OPS.store 1 _ rfl rfl rfl (j4 rfl) rfl (cI rfl) rfl rfl H rfl (by simp only [List.length_map]; omega) ?_
     clear H; intro w H
     simp only [List.set_cons_zero, List.set_cons_succ] at H
     rw [hpu] at H
     refine Y.z ?_
     exact ⟨Y.ag, _, H, hP.set (by split <;> omega) (by omega)⟩
    refine Y.k ?_
    exact ⟨Y.ag, _, H, hP⟩
   clear H hP
   rintro u3 w ⟨p, H, hP⟩
   have hpl := hP.1
   have hpu : ∀ v x, jam (p.map I) (0 + v) [I x] = (p.set v x).map I := fun v x => by rw [Nat.zero_add, jae]
   refine Y.qr<|Y.sS rfl<|Y.a rfl<|Y.I rfl<|Y.v (Y.c (H.ld0 (by assumption)) rfl) ?_
   refine Y.v (Ev.gtr rfl rfl)<|Y.z ?_
   refine WP.cond rfl (fun hc11 => ?_) (fun hc11 => ?_)
   ·have hpa := hP.2 a (by omega)
    have hpb := hP.2 b' (by omega)
    refine WP.rtail 18 mixed (by kernel_rfl) H ?_
    clear H; intro w hbw12 H
    obtain ⟨_, _, e1, hxa⟩ := y9 H 1 rfl a (by omega)
    cases e1
    obtain ⟨_, _, e1, hxb⟩ := y9 H 1 rfl b' (by omega)
    cases e1
    refine Y.sS rfl<|Y.W H 0 rfl<|Y.sS rfl<|Y.W H 0 rfl<|Y.I rfl<|Y.v (Y.c (by assumption) rfl) ?_
    refine Y.sS rfl<|Y.W H 0 rfl<|Y.I rfl<|Y.v (Y.c (by assumption) rfl) ?_
    refine Y.W H 0 rfl<|Y.Q rfl<|Y.v (Ev.min rfl rfl)<|Y.I rfl<|OPS.nil_s<|OPS.store 1 _ rfl rfl rfl (j4 rfl) rfl (cI rfl) rfl rfl H rfl (by simp only [List.length_map]; omega) ?_
    clear H; intro w H
    simp only [List.set_cons_zero, List.set_cons_succ] at H
    rw [hpu] at H
    refine Y.z<|Y.r<|Y.a rfl<|Y.P rfl<|Y.bz rfl ?_
    exact ⟨Y.ag, k2 - 1, by omega, j + 1, _, by omega, rfl, H.reidx [1, 2] (by decide) rfl, hP.set (by split <;> omega) (by omega)⟩
   refine Y.k<|Y.r<|Y.a rfl<|Y.P rfl<|Y.bz rfl ?_
   exact ⟨Y.ag, k2 - 1, by omega, j + 1, _, by omega, rfl, H.reidx [1, 2] (by decide) rfl, hP.mono (by omega)⟩
  refine WP.exit<|XB.hit<|Y.r<|Y.a rfl<|Y.P rfl<|Y.bz rfl ?_
  exact ⟨Y.ag, k - 1, by omega, r + 1, _, by omega, rfl, H, hP.mono (by omega)⟩
 refine WP.exit<|XB.hit<|Y.qr<|Y.sS rfl<|Y.aS rfl<|Y.z ?_
 refine WP.ret ⟨_, rfl, ?_⟩
 exact ⟨g11, p, rfl, hP.mono (by simp at hc3; omega), H.reidx [0] (by decide) rfl⟩
theorem jg4 {n f t amt most : Int} {l : List Arc} (h : cheapErr n f t amt l most = 0) : 0 ≤ amt ∧ amt ≤ 65536 := by
 unfold cheapErr at h
 split at h
 ·rename_i h1; exact absurd h h1
 ·split at h
  ·cases h
  ·rename_i h2; simp at h2; omega
theorem refCheapest (n f t amt : Int) (A : Option Addr) (l : List Arc) (cap : Nat) (w0 : World) (hz : ArcsAt w0 A l) :
  Calls Tryz.prog 71 #[.agg #[I n, .slice A l.length cap], I f, I t, I amt] w0 fun e w' => ∃ most : Int, MostRet n f t l most (endsErr n l f t) ∧ (cheapErr n f t amt l most = 0 → ∃ (c : Int) (m go gp : Nat) (on p : List Int), n = m ∧ e = .returned (.tuple #[.agg #[I amt, I c, .slice (some ⟨go, 0, none⟩) l.length l.length, .slice (some ⟨gp, 0, none⟩) m m], I 0]) ∧ PB m p 2181038080 ∧ SH w0 [] w' [⟨go, 3, on.map I⟩, ⟨gp, 3, p.map I⟩]) := by
 have H := SH.refl w0
 refine Calls.ofWPc Tryz.func71 rfl Tryz.results71 Tryz.ntmps71 rfl<|Y.qr<|Y.bx (cA rfl) H ?_
 clear H; intro g4 w H
 refine Y.al H rfl rfl ?_
 clear H; intro g8 w H
 refine Y.bz rfl<|Y.qr<|Y.O H 1 rfl<|Y.a rfl<|Y.a rfl<|Y.a rfl<|Y.c2 20 rfl (refCost n f t amt A l cap w (hz.sh H)) ?_
 rintro _ w ⟨most, c, er, rfl, hR, hb⟩
 refine ⟨_, rfl, ?_⟩
 replace H := H.toBelow hb; clear hb
 refine Y.T rfl<|Y.G rfl<|Y.G rfl<|Y.b rfl<|Y.bz rfl<|Y.qq<|Y.a rfl<|Y.V rfl<|Y.z ?_
 refine WP.cond rfl (fun hc2 => ?_) (fun hc2 => ?_)
 ·refine Y.qr<|Y.v (Ev.build (jeM (e := fun _ => .int .i64 0)))<|Y.a rfl<|Y.ss 0 H rfl (cA rfl) rfl ?_
  clear H; intro w H
  refine Y.bz rfl ?_
  refine WP.ret ⟨[_, _], ⟨(by exact x6 0 H rfl (j6 rfl) (j4 rfl) (by rfl) rfl), rfl, trivial⟩, ?_⟩
  have he : er ≠ 0 := by simpa using hc2
  exact ⟨most, hR.mst, fun h => absurd (hR.err.trans h) he⟩
 have he : er = 0 := by simpa using hc2
 have hce := hR.err.symm.trans he
 obtain ⟨m, s, d, hE, _⟩ := hR.good he
 have e1 := hE.hn
 have e2 := hE.hf
 have e3 := hE.ht
 subst e1 e2 e3
 have hN := hE.net
 have hab := jg4 hce
 refine Y.k<|Y.qr<|Y.O H 1 rfl<|Y.a rfl<|Y.a rfl<|Y.a rfl<|Y.c2 32 rfl (jgw m s d amt A l cap w hN hE.s1 hE.d1 hE.ne (by omega) (hz.sh H)) ?_
 rintro _ w ⟨gon, on, got, rfl, hF, Hc⟩
 refine ⟨_, rfl, ?_⟩
 replace H := SH.call (Lv := []) (by rw [List.append_nil]; exact H) Hc
 clear Hc
 have hol : on.length = l.length := hF.flow.v.len
 refine Y.T rfl<|Y.G rfl<|Y.G rfl<|Y.G rfl<|Y.aS rfl<|Y.b rfl<|Y.bz rfl<|Y.qr<|Y.a rfl<|Y.a rfl<|Y.sS rfl<|Y.O H 1 rfl<|Y.sS rfl ?_
 have hpo := jgj m A (some ⟨gon, 0, none⟩) l on cap l.length w hN hol (hz.sh H) (y9 H 2 rfl)
 rw [hol] at hpo
 refine Y.c2 41 rfl (hpo) ?_
 rintro _ w ⟨gp, p, rfl, hP, Hc⟩
 refine ⟨_, rfl, ?_⟩
 replace H := SH.call (Lv := []) (by rw [List.append_nil]; exact H) Hc
 clear Hc hpo
 simp only [List.cons_append, List.nil_append] at H
 refine Y.v (Ev.build (jcX rfl rfl rfl rfl))<|Y.ss 0 H rfl (cA rfl) rfl ?_
 clear H; intro w H
 refine Y.bz rfl ?_
 refine WP.ret ⟨[_, _], ⟨(by exact x6 0 H rfl (j6 rfl) (j4 rfl) (by rfl) rfl), rfl, trivial⟩, ?_⟩
 exact ⟨most, hR.mst, fun _ => ⟨c, m, gon, gp, on, p, rfl, rfl, hP, H.drop (List.sublist_append_right [_, _] [_, _])⟩⟩
end Go.Proofs.YtgcokllbophkkaaGreat.Flo
namespace Go.Proofs.YtgcokllbophkkaaGreat
open Go Go.W Go.RowKit
theorem jdH (C D : List Int) (tm : List (List Int)) : Flo.Two (jfq C D tm) (Flo.colArcs (2 + C.length) 2 C tm) (Flo.brArcs 1 (2 + C.length) D) := .inr rfl
theorem jiA {C D : List Int} {tm : List (List Int)} (hX : Flo.Trans C D tm) : Flo.Two (jfq C D tm) ((Flo.colArcs (1 + C.length) 1 C tm).map (Flo.renA (C.length + D.length + 1) 1 1)) ((Flo.brArcs (C.length + D.length + 1) (1 + C.length) D).map (Flo.renA (C.length + D.length + 1) 1 1)) := by
 have hr : ∀ x : Int, 0 < x → x < C.length + D.length + 1 → Flo.ren (C.length + D.length + 1) 1 1 x = x + 1 := fun x h1 h2 => by
  unfold Flo.ren; rw [if_neg (by omega), if_neg (by omega)]
 have hlen : ∀ r ∈ tm, r.length ≤ D.length := fun r hr => by
  obtain ⟨j, hj, rfl⟩ := List.mem_iff_getElem.1 hr
  refine Nat.not_lt.1 fun h => ?_
  have e : Flo.tmAt tm j D.length = some (tm[j][D.length]) := by unfold Flo.tmAt; simp [hj, h]
  have := (hX.tab.cols j D.length _ e).2
  omega
 have h1 := Flo.col_ren (last := C.length + D.length + 1) (last' := 1) (sh := 1) (g := 1 + C.length) (nb := D.length) (fun k hk => hr _ (by omega) (by omega)) C tm 1 hlen (fun j hj => hr _ (by omega) (by omega))
 have h2 := Flo.br_ren (last := C.length + D.length + 1) (last' := 1) (sh := 1) (by omega) D (1 + C.length) (fun k hk => hr _ (by omega) (by omega))
 rw [← h1, ← h2, show (1 : Int) + C.length + 1 = 2 + C.length by omega]
 exact jdH C D tm
theorem jjh {C D : List Int} {tm : List (List Int)} {us vs : List Int} {T c : Int} (hX : Flo.Trans C D tm) (hS : Flo.Solved C D tm us vs T) (hL : Flo.IsLeast (C.length + D.length + 2) (jfq C D tm) 0 1 D.sum c) : c = T := by
 have hP := Flo.stand_r C D
 have hn := Flo.net_nodes hP hX.tab (jdH C D tm)
 have h1 : T ≤ c := by
  obtain ⟨on, hf, rfl⟩ := hL.1
  obtain ⟨⟨u, v, a1, a2, a3⟩, _⟩ := hS.max
  have := Flo.weak_price hP hX.tab (jdH C D tm) hn hf a1 a2
  omega
 have h2 : c ≤ T := by
  obtain ⟨on, hf, hc⟩ := hS.flow
  have hPp := Flo.stand_p C D
  have h2p : Flo.Two (jfE C D tm) (Flo.colArcs (1 + C.length) 1 C tm) (Flo.brArcs (C.length + D.length + 1) (1 + C.length) D) := .inl rfl
  have hnp := Flo.net_nodes hPp hX.tab h2p
  obtain ⟨on', hf', hc'⟩ := Flo.flow_ren (n' := C.length + D.length + 2) h2p (jiA hX) hnp (by omega) (by omega) (fun x y hx hx2 hy hy2 he => by
   unfold Flo.ren at he
   split at he <;> split at he <;> (try split at he) <;> (try split at he) <;> omega) hf (by omega) (by omega)
  have := hL.2 on' hf'
  have hc : Flo.costOf (jfE C D tm) on = T := hc
  omega
 omega
theorem jlI {C D : List Int} {tm : List (List Int)} (h : Flo.Trans C D tm) : (jfq C D tm).length ≤ 300 := by
 have h1 := jgb h
 unfold jfE at h1
 unfold jfq
 rw [List.length_append] at h1 ⊢
 have e1 := Flo.br_len 1 D (2 + C.length)
 have e2 := Flo.br_len (C.length + D.length + 1) D (1 + C.length)
 have e3 : (Flo.colArcs (2 + C.length) 2 C tm).length = (Flo.colArcs (1 + C.length) 1 C tm).length := by
  have := jiA h
  rcases this with h4 | h4
  ·have := congrArg List.length h4
   unfold jfq at this
   simp only [List.length_append, List.length_map] at this
   omega
  ·have := congrArg List.length h4
   unfold jfq at this
   simp only [List.length_append, List.length_map] at this
   omega
 omega
theorem jgQ {C D : List Int} {tm : List (List Int)} (h : Flo.Trans C D tm) : Flo.endsErr (C.length + D.length + 2 : Nat) (jfq C D tm) 0 1 = 0 := h.ends (Flo.stand_r C D) (jdH C D tm) (by have := jlI h; omega)
theorem jlw {C D : List Int} {tm : List (List Int)} {most : Int} (h : Flo.Trans C D tm) (hm : Flo.MostRet (C.length + D.length + 2 : Nat) 0 1 (jfq C D tm) most (Flo.endsErr (C.length + D.length + 2 : Nat) (jfq C D tm) 0 1)) : D.sum ≤ most ↔ Flo.Hall C D tm := by
 have hD := h.dsum
 obtain ⟨m, e, hmx⟩ := hm.2.2 (jgQ h)
 have e2 : m = C.length + D.length + 2 := by omega
 subst e2
 exact Flo.most_hall (Flo.stand_r C D) h.tab (fun c hc => by have := h.cb c hc; omega) (by omega) (jdH C D tm) hmx
theorem jnd {m : Nat} {l : List Edg} {ts : List q9} {ns : List z6} {hd : Int} (hK : jbU m l ts ns hd) (h0 : ts.length ≠ 0) : 1 ≤ jbx ts := by
 have h : ∀ j, j + 1 ≤ ts.length → 1 ≤ jbx (ts.take (j + 1)) := fun j hj => by
  have h1 := hK.tr ts[j] (List.getElem_mem (by omega))
  rw [jd1 (show j < ts.length by omega)]
  split <;> omega
 have := h (ts.length - 1) (by omega)
 rwa [show ts.length - 1 + 1 = ts.length by omega, List.take_length] at this
end Go.Proofs.YtgcokllbophkkaaGreat
namespace Go.Proofs.YtgcokllbophkkaaGreat
open Go Go.W Go.RowKit
theorem jdp {C D : List Int} {tm : List (List Int)} {most : Int} (h : Flo.Trans C D tm) (hm : Flo.MostRet (C.length + D.length + 2 : Nat) 0 1 (jfq C D tm) most (Flo.endsErr (C.length + D.length + 2 : Nat) (jfq C D tm) 0 1)) :
  (Flo.Hall C D tm → Flo.cheapErr (C.length + D.length + 2 : Nat) 0 1 D.sum (jfq C D tm) most = 0) ∧ (¬ Flo.Hall C D tm → Flo.cheapErr (C.length + D.length + 2 : Nat) 0 1 D.sum (jfq C D tm) most = 15) := by
 have hD := h.dsum
 have he := jgQ h
 have hh := jlw h hm
 constructor
 ·intro hH
  rw [Flo.cheapErr, if_neg (by rw [he]; simp), if_neg (by simp; omega), if_neg (by have := hh.2 hH; omega)]
 ·intro hH
  rw [Flo.cheapErr, if_neg (by rw [he]; simp), if_neg (by simp; omega), if_pos (Int.not_le.1 fun h => hH (hh.1 h))]
theorem jdv {cp : Int} {C D : List Int} {tm : List (List Int)} (h : jbM cp C.sum D.sum = true) : jaR cp C D tm = 10 := by rw [jaR, if_pos h]
theorem jm0 : jbx [] = 0 := rfl
structure jmy (n : Int) (l : List Edg) (ts : List q9) (ns : List z6) (hd t er : Int) : Prop where
 err : er = jav n l ts ns hd
 good : er = 0 → (0 ≤ t ∧ t ≤ 4000000000000) ∧ ∀ us vs T, Flo.Solved (jbg ns) (jao ns) (jct n.toNat l ns) us vs T → t = T
theorem jia (n hd : Int) (A B C : Option Addr) (l : List Edg) (ts : List q9) (ns : List z6) (ca cb cc : Nat) (w0 : World) (hN : jaE w0 A B C l ts ns cc) :
  Calls Tryz.prog 66 #[.agg #[I n, .slice A l.length ca, .slice B ts.length cb, .slice C ns.length cc, I hd]] w0 fun e w' => ∃ t er : Int, e = .returned (.tuple #[I t, I er]) ∧ jmy n l ts ns hd t er ∧ Below w0.heap.size w0 w' := by
 have H := SH.refl w0
 by_cases h0 : q7 n l ts ns hd = 0
 ·obtain ⟨m, rfl, hK⟩ := jaO h0
  have hX := jeI hK
  have hD := hX.dsum
  have hnl := hK.nl
  have hl1 : (jaC ns).length ≤ ns.length := List.length_filter_le _ _
  have hl2 : (jaD ns).length ≤ ns.length := List.length_filter_le _ _
  have hcb : ∀ x ∈ jaC ns, -32 ≤ x.move ∧ x.move ≤ 32 := fun x hx => by have := hK.nd x (List.mem_filter.1 hx).1; omega
  have hbb : ∀ x ∈ jaD ns, -32 ≤ x.move ∧ x.move ≤ 32 := fun x hx => by have := hK.nd x (List.mem_filter.1 hx).1; omega
  have hfe : jav m l ts ns hd = jaR (jbx ts) (jbg ns) (jao ns) (jct m l ns) := by rw [jav, if_neg (by simp [h0])]; simp
  by_cases hts : ts.length = 0
  ·have htn : ts = [] := List.length_eq_zero_iff.1 hts
   subst htn
   refine Calls.ofWP Tryz.func66 rfl Tryz.results66 Tryz.ntmps66 rfl<|Y.qr<|Y.bx (cA rfl) H ?_
   clear H; intro g1 w H
   refine Y.b rfl<|Y.bz rfl<|Y.qq<|Y.O H 0 rfl<|Y.cl 7 rfl (jdL m hd A B C l [] ns ca cb cc w (hN.l.sh H) (hN.t.sh H) (hN.n.sh H)) H ?_
   clear H; intro w H
   refine Y.bz rfl<|Y.qr<|Y.a rfl<|Y.V rfl<|Y.z ?_
   refine WP.cond rfl (fun hc2 => ?_) (fun hc2 => ?_)
   ·refine Y.qr<|Y.a rfl<|Y.b rfl<|Y.bz rfl ?_
    refine WP.ret ⟨_, rfl, ?_⟩
    exact absurd hc2 (by simp [h0])
   refine Y.k<|Y.qr<|Y.O H 0 rfl<|Y.c2 12 rfl (jir m hd A B C l.length 0 ns ca cb cc w (hN.n.sh H) (by omega)) ?_
   rintro _ w ⟨Sb, kb, Lb, rfl, hOb, Hc⟩
   refine ⟨_, rfl, ?_⟩
   replace H := SH.call (Lv := []) (by rw [List.append_nil]; exact H) Hc
   clear Hc
   refine Y.cl 13 rfl (jie Sb (jaD ns) kb w (OwnS.needs hOb H) (by omega) hbb) H ?_
   clear H; intro w H
   rw [jhy]
   clear hOb
   refine Y.bz rfl<|Y.qq<|Y.W H 0 rfl<|Y.E rfl<|Y.v (Ev.eql rfl rfl)<|Y.B rfl<|OPS.gno rfl rfl rfl rfl rfl rfl<|OPS.gno rfl rfl rfl rfl rfl rfl<|OPS.gno rfl rfl rfl rfl rfl rfl<|OPS.gno rfl rfl rfl rfl rfl rfl<|OPS.gno rfl rfl rfl rfl rfl rfl<|OPS.val (v := .bool true) rfl rfl rfl (Ev.pick (b := true) rfl)<|Y.z ?_
   refine WP.cond rfl (fun hc5 => ?_) (fun hc5 => ?_)
   ·refine Y.qr<|Y.b rfl<|Y.bz rfl ?_
    refine WP.ret ⟨_, rfl, ?_⟩
    exact ⟨0, 10, rfl, ⟨by rw [hfe, jdv (by rw [jm0]; rfl)], fun h => by cases h⟩, H.below⟩
   refine Y.k<|Y.q ?_
   cases hc5
  ·have hts2 : (decide ((ts.length : Int) = 0)) = false := decide_eq_false (by omega)
   have hcp := jnd hK hts
   refine Calls.ofWP Tryz.func66 rfl Tryz.results66 Tryz.ntmps66 rfl<|Y.qr<|Y.bx (cA rfl) H ?_
   clear H; intro g1 w H
   refine Y.b rfl<|Y.bz rfl<|Y.qq<|Y.O H 0 rfl<|Y.cl 7 rfl (jdL m hd A B C l ts ns ca cb cc w (hN.l.sh H) (hN.t.sh H) (hN.n.sh H)) H ?_
   clear H; intro w H
   refine Y.bz rfl<|Y.qr<|Y.a rfl<|Y.V rfl<|Y.z ?_
   refine WP.cond rfl (fun hc2 => ?_) (fun hc2 => ?_)
   ·refine Y.qr<|Y.a rfl<|Y.b rfl<|Y.bz rfl ?_
    refine WP.ret ⟨_, rfl, ?_⟩
    exact absurd hc2 (by simp [h0])
   refine Y.k<|Y.qr<|Y.O H 0 rfl<|Y.c2 12 rfl (jir m hd A B C l.length ts.length ns ca cb cc w (hN.n.sh H) (by omega)) ?_
   rintro _ w ⟨Sb, kb, Lb, rfl, hOb, Hc⟩
   refine ⟨_, rfl, ?_⟩
   replace H := SH.call (Lv := []) (by rw [List.append_nil]; exact H) Hc
   clear Hc
   refine Y.cl 13 rfl (jie Sb (jaD ns) kb w (OwnS.needs hOb H) (by omega) hbb) H ?_
   clear H; intro w H
   rw [jhy]
   replace H := H.drop Y.sl
   clear hOb
   refine Y.bz rfl<|Y.qq<|Y.W H 0 rfl<|Y.E rfl<|Y.v (Ev.eql rfl rfl) ?_
   rw [hts2]
   refine Y.B rfl<|OPS.gyes rfl rfl rfl rfl<|OPS.val rfl rfl rfl Ev.move<|OPS.gyes rfl rfl rfl rfl<|Y.O H 0 rfl<|OPS.gyes rfl rfl rfl rfl<|Y.c2 21 rfl (jj0 m hd A B C l.length ts.length ns ca cb cc w (hN.n.sh H) (by omega)) ?_
   rintro _ w ⟨Sc, kc, Lc, rfl, hOc, Hc⟩
   refine ⟨_, rfl, ?_⟩
   replace H := SH.call (Lv := []) (by rw [List.append_nil]; exact H) Hc
   clear Hc
   refine OPS.gyes rfl rfl rfl rfl<|Y.cl 22 rfl (jie Sc (jaC ns) kc w (OwnS.needs hOc H) (by omega) hcb) H ?_
   clear H; intro w H
   rw [sum_col]
   replace H := H.drop Y.sl
   clear hOc
   refine OPS.gyes rfl rfl rfl rfl<|Y.v (Ev.gtr rfl rfl)<|OPS.val (v := .bool (decide ((jbg ns).sum < (jao ns).sum))) rfl rfl rfl (Ev.pick (b := false) rfl)<|Y.z ?_
   refine WP.cond rfl (fun hc5 => ?_) (fun hc5 => ?_)
   ·refine Y.qr<|Y.b rfl<|Y.bz rfl ?_
    refine WP.ret ⟨_, rfl, ?_⟩
    have hlt : (jbg ns).sum < (jao ns).sum := by simpa using hc5
    exact ⟨0, 10, rfl, ⟨by rw [hfe, jdv (by unfold jbM; simp [hlt])], fun h => by cases h⟩, H.below⟩
   have hge : ¬ (jbg ns).sum < (jao ns).sum := by simpa using hc5
   have hem : jbM (jbx ts) (jbg ns).sum (jao ns).sum = false := by unfold jbM; simp; omega
   have hse : jaR (jbx ts) (jbg ns) (jao ns) (jct m l ns) = open Classical in if Flo.Hall (jbg ns) (jao ns) (jct m l ns) then 0 else 15 := by rw [jaR, if_neg (by rw [hem]; simp)]
   refine Y.k<|Y.qr<|Y.O H 0 rfl<|Y.c2 26 rfl (jeg m hd A B C l ts ns ca cb cc w (hN.sh H) hK) ?_
   rintro _ w ⟨NA, ncap, LN, rfl, hA, Hc⟩
   refine ⟨_, rfl, ?_⟩
   replace H := SH.call (Lv := []) (by rw [List.append_nil]; exact H) Hc
   clear Hc
   refine Y.a rfl<|Y.c2 28 rfl (Flo.refCost ((jbg ns).length + (jao ns).length + 2 : Nat) 0 1 (jao ns).sum NA (jfq (jbg ns) (jao ns) (jct m l ns)) ncap w (hA.at H Y.sr)) ?_
   rintro _ w ⟨most, c, er, rfl, hR, hb⟩
   refine ⟨_, rfl, ?_⟩
   replace H := H.toBelow hb; clear hb
   refine Y.G rfl<|Y.G rfl<|Y.b rfl<|Y.bz rfl ?_
   refine WP.ret ⟨_, rfl, ?_⟩
   have hch := jdp hX hR.mst
   refine ⟨c, er, rfl, ⟨?_, fun he => ?_⟩, H.below⟩
   ·rw [hfe, hse, hR.err]
    split
    ·rename_i hH; exact hch.1 hH
    ·rename_i hH; exact hch.2 hH
   ·obtain ⟨m2, s, d, hE, hL⟩ := hR.good he
    have e1 := hE.hn
    have e2 := hE.hf
    have e3 := hE.ht
    have e4 : m2 = (jbg ns).length + (jao ns).length + 2 := by omega
    have e5 : s = 0 := by omega
    have e6 : d = 1 := by omega
    subst e4 e5 e6
    refine ⟨?_, fun us vs T hS => jjh hX (by simpa using hS) hL⟩
    obtain ⟨on, hf, rfl⟩ := hL.1
    have := Flo.costOf_bd' hE.net hf.v
    omega
 ·have hfe : jav n l ts ns hd = q7 n l ts ns hd := by rw [jav, if_pos h0]
  refine Calls.ofWP Tryz.func66 rfl Tryz.results66 Tryz.ntmps66 rfl<|Y.qr<|Y.bx (cA rfl) H ?_
  clear H; intro g1 w H
  refine Y.b rfl<|Y.bz rfl<|Y.qq<|Y.O H 0 rfl<|Y.cl 7 rfl (jdL n hd A B C l ts ns ca cb cc w (hN.l.sh H) (hN.t.sh H) (hN.n.sh H)) H ?_
  clear H; intro w H
  refine Y.bz rfl<|Y.qr<|Y.a rfl<|Y.V rfl<|Y.z ?_
  refine WP.cond rfl (fun hc2 => ?_) (fun hc2 => ?_)
  ·refine Y.qr<|Y.a rfl<|Y.b rfl<|Y.bz rfl ?_
   refine WP.ret ⟨_, rfl, ?_⟩
   exact ⟨0, _, rfl, ⟨hfe.symm, fun h => absurd h h0⟩, H.below⟩
  refine Y.k<|Y.q ?_
  exact absurd hc2 (by simp [h0])
end Go.Proofs.YtgcokllbophkkaaGreat
namespace Go.Proofs.YtgcokllbophkkaaGreat
open Go Go.W Go.RowKit
structure jjN (n : Int) (l : List Edg) (ts : List q9) (ns : List z6) (hd s b : Int) : Prop where
 good : jav n l ts ns hd = 0 → (∀ us vs T, Flo.Solved (jbg ns) (jao ns) (jct n.toNat l ns) us vs T → s = jcn T (jbx ts)) ∧ b = (jao ns).sum
set_option maxRecDepth 20000 in
theorem r44Find (n hd : Int) (A B C : Option Addr) (l : List Edg) (ts : List q9) (ns : List z6) (ca cb cc : Nat) (w0 : World) (hN : jaE w0 A B C l ts ns cc) :
  Calls Tryz.prog 40 #[.agg #[I n, .slice A l.length ca, .slice B ts.length cb, .slice C ns.length cc, I hd]] w0 fun e w' => ∃ (s b : Int) (AU AV : Option Addr) (nu cu nv cv : Nat), e = .returned (.tuple #[.agg (jcN s b AU nu cu AV nv cv).toArray, I (jav n l ts ns hd)]) ∧ jjN n l ts ns hd s b ∧ Below w0.heap.size w0 w' := by
 have H := SH.refl w0
 by_cases h0 : jav n l ts ns hd = 0
 ·obtain ⟨m, rfl, hK, hem, hH⟩ := jgg h0
  have hX := jeI hK
  have hD := hX.dsum
  have hnl := hK.nl
  have hcap := jh1 hK
  have hcap1 : 1 ≤ jbx ts := by simp [jbM] at hem; omega
  have hl1 : (jaC ns).length ≤ ns.length := List.length_filter_le _ _
  have hl2 : (jaD ns).length ≤ ns.length := List.length_filter_le _ _
  have hCl : (jbg ns).length = (jaC ns).length := by simp [jbg]
  have hDl : (jao ns).length = (jaD ns).length := by simp [jao]
  have hbb : ∀ x ∈ jaD ns, -32 ≤ x.move ∧ x.move ≤ 32 := fun x hx => by have := hK.nd x (List.mem_filter.1 hx).1; omega
  have htb : ∀ t ∈ ts, 0 ≤ t.cap ∧ t.cap ≤ 32 := fun t ht => by have := hK.tr t ht; omega
  have htl := hK.tl
  refine Calls.ofWPc Tryz.func40 rfl Tryz.results40 Tryz.ntmps40 rfl<|Y.qr<|Y.bx (cA rfl) H ?_
  clear H; intro g1 w H
  refine Y.al H rfl rfl ?_
  clear H; intro g2 w H
  refine Y.bz rfl<|Y.qr<|Y.O H 1 rfl<|Y.c2 15 rfl (jia m hd A B C l ts ns ca cb cc w (hN.sh H)) ?_
  rintro _ w ⟨t, er, rfl, hR, hb⟩
  refine ⟨_, rfl, ?_⟩
  replace H := H.toBelow hb; clear hb
  refine Y.T rfl<|Y.G rfl<|Y.G rfl<|Y.b rfl<|Y.bz rfl<|Y.qq<|Y.a rfl<|Y.V rfl<|Y.z ?_
  refine Y.i rfl (fun hc2 => ?_) fun hc2 => ?_
  ·refine Y.qr<|Y.v (Ev.build (jda (e := fun _ => .int .i64 0)))<|Y.a rfl<|Y.ss 0 H rfl (cA rfl) rfl ?_
   clear H; intro w H
   refine Y.bz rfl ?_
   refine WP.ret ⟨[_, _], ⟨(by exact x6 0 H rfl (j6 rfl) (j4 rfl) (by rfl) rfl), rfl, trivial⟩, ?_⟩
   exact absurd hc2 (by rw [hR.err, h0]; decide)
  have her : er = 0 := hR.err.trans h0
  obtain ⟨htn, htS⟩ := hR.good her
  unfold jap at H
  refine Y.k<|Y.q ?_
  refine WP.rheldC [6, 7, 22, 23, 24, 25] (fun u w' => ∃ (Sc Sb : Option Addr) (kc kb : Nat) (Lb : List Blk), u 6 = .slice Sc (jaC ns).length kc ∧ u 7 = .slice Sb (jaD ns).length kb ∧ OwnS Sb kb (jaD ns).length ((jaD ns).flatMap j8) 68 2 Lb ∧ SH w0 [] w' ([⟨g2, 71, jap⟩, ⟨g1, 28, [I m, .slice A l.length ca, .slice B ts.length cb, .slice C ns.length cc, I hd]⟩] ++ Lb)) mixed H ?_ ?_
  ·clear H; intro w hbw4 H
   refine Y.t 0 H rfl rfl (fun w H => Y.o H 1 rfl rfl)<|Y.t 2 H rfl rfl (fun w H => Y.o H 1 rfl rfl)<|Y.A1 1 rfl rfl<|Y.c2 23 rfl (jj0 m hd A B C l.length ts.length ns ca cb cc _ (hN.n.sh H) (by omega)) ?_
   rintro _ w ⟨Sc, kc, Lc, rfl, _, Hc⟩
   refine ⟨_, rfl, ?_⟩
   replace H := H.toBelow Hc.below
   clear Hc
   refine Y.z <| ⟨(H), ?_⟩
   refine Y.A1 3 rfl rfl<|Y.c2 25 rfl (jir m hd A B C l.length ts.length ns ca cb cc _ (hN.n.sh H) (by omega)) ?_
   rintro _ w ⟨Sb, kb, Lb, rfl, hOb, Hc⟩
   refine ⟨_, rfl, ?_⟩
   have Hf := SH.call (Lv := []) (by rw [List.append_nil]; exact H) Hc
   clear H Hc
   have H := Hf.drop Y.sl
   refine Y.z <| ⟨(H), ?_⟩
   refine Y.t 4 H rfl rfl (fun w H => Ev.asS rfl)<|Y.t 5 H rfl rfl (fun w H => Ev.asS rfl)<|Y.dn ?_
   exact ⟨Y.ag, Sc, Sb, kc, kb, Lb, rfl, rfl, hOb, Hf⟩
  clear H
  rintro u w ⟨Sc, Sb, kc, kb, Lb, h6, h7, hOb, H⟩
  refine WP.know (t := 6) h6 (WP.know (t := 7) h7 ?_)
  refine Y.qr<|Y.a rfl<|Y.O H 1 rfl<|Y.cl 28 rfl (jhg m hd A B C l.length ns.length ts ca cb cc w (hN.t.sh H) (by omega) htb) H ?_
  clear H; intro w H
  refine Y.cl 29 rfl (ji0 t (jbx ts) w (by omega) (by omega)) H ?_
  clear H; intro w H
  refine Y.sS rfl<|Y.cl 31 rfl (jie Sb (jaD ns) kb w (OwnS.needs hOb H) (by omega) hbb) H ?_
  clear H; intro w H
  rw [jhy]
  replace H := H.drop (L' := [⟨g2, 71, jap⟩, ⟨g1, 28, [I m, .slice A l.length ca, .slice B ts.length cb, .slice C ns.length cc, I hd]⟩]) Y.sl
  clear hOb
  refine Y.v (Ev.build (jiY rfl rfl))<|Y.al H rfl rfl ?_
  clear H; intro g8 w H
  refine Y.ss 0 H rfl (cA rfl) rfl ?_
  clear H; intro w H
  refine Y.z<|Y.q ?_
  replace H : SH w0 [] w [⟨g8, 71, jcN (jcn t (jbx ts)) (jao ns).sum none 0 0 none 0 0⟩, ⟨g2, 71, jap⟩, ⟨g1, 28, [I m, .slice A l.length ca, .slice B ts.length cb, .slice C ns.length cc, I hd]⟩] := H
  have E := H
  unfold jcN at H E
  refine WP.rheldC [9, 10, 33, 34, 35, 36, 37, 38, 39, 40] (fun u w' => ∃ (cst : Int) (g9 go gp nl mm : Nat) (p : List Int), u 9 = .pointer (some ⟨g9, 0, none⟩) ∧ mm = (jbg ns).length + (jao ns).length + 2 ∧ Flo.PB mm p 2181038080 ∧ SH w0 [] w' [⟨g9, 118, [I (jao ns).sum, I cst, .slice (some ⟨go, 0, none⟩) nl nl, .slice (some ⟨gp, 0, none⟩) mm mm]⟩, ⟨g8, 71, jcN (jcn t (jbx ts)) (jao ns).sum none 0 0 none 0 0⟩, ⟨g2, 71, jap⟩, ⟨g1, 28, [I m, .slice A l.length ca, .slice B ts.length cb, .slice C ns.length cc, I hd]⟩, ⟨gp, 3, p.map I⟩]) mixed H ?_ ?_
  ·clear H; intro w hbw6 H
   refine Y.t 0 H rfl rfl (fun w H => Y.o H 2 rfl rfl)<|Y.tf 2 H rfl<|Y.tl 3 H 0 rfl ?_
   refine Y.A2 1 8 rfl rfl rfl ?_ ?_
   ·try replace E := E.toBelow hbw6
    refine Y.c2 35 rfl (jeg m hd A B C l ts ns ca cb cc _ (hN.sh E) hK) ?_
    rintro _ w ⟨NA, ncap, LN, rfl, hA, Hc⟩
    refine ⟨_, rfl, ?_⟩
    replace E := SH.call (Lv := []) (by rw [List.append_nil]; exact E) Hc
    clear H Hc
    have H : SH w0 [] w [⟨g8, 71, [I (jcn t (jbx ts)), I (jao ns).sum, .slice none 0 0, .slice none 0 0]⟩, ⟨g2, 71, jap⟩, ⟨g1, 28, [I m, .slice A l.length ca, .slice B ts.length cb, .slice C ns.length cc, I hd]⟩] := by exact E.drop Y.sl
    refine Y.z <| ⟨(H), ?_⟩
    refine Y.A2 4 8 rfl rfl rfl ?_ ?_
    ·have hAt := (by exact hA.at (L' := [_, _, _] ++ LN) E Y.sr)
     refine Y.c2 38 rfl (Flo.refCheapest ((jbg ns).length + (jao ns).length + 2 : Nat) 0 1 (jao ns).sum NA (jfq (jbg ns) (jao ns) (jct m l ns)) ncap w hAt) ?_
     clear hAt
     rintro _ w ⟨most, hM, hgood⟩
     obtain ⟨cst, mm, go, gp, on, p, hmm, rfl, hP, Hc⟩ := hgood ((jdp hX hM).1 hH)
     refine ⟨_, rfl, ?_⟩
     replace E := SH.call (Lv := []) (by rw [List.append_nil]; exact E) Hc
     clear H Hc hgood
     have H : SH w0 [] w [⟨g8, 71, [I (jcn t (jbx ts)), I (jao ns).sum, .slice none 0 0, .slice none 0 0]⟩, ⟨g2, 71, jap⟩, ⟨g1, 28, [I m, .slice A l.length ca, .slice B ts.length cb, .slice C ns.length cc, I hd]⟩] := by exact SH.drop (L := [_, _, _] ++ (LN ++ [_, _])) E Y.sl
     refine Y.z <| ⟨(H), ?_⟩
     refine Y.t 5 H rfl rfl (fun w H => Ev.mvT rfl)<|Y.t 6 H rfl rfl (fun w H => Ev.extract rfl rfl)<|Y.t 7 H rfl rfl (fun w H => Ev.extract rfl rfl)<|Y.A1 8 rfl rfl ?_
     try replace E := E.toBelow hbw6
     refine Y.al E rfl rfl ?_
     clear H E; intro g9 w E
     have H : SH w0 [] w [⟨g8, 71, [I (jcn t (jbx ts)), I (jao ns).sum, .slice none 0 0, .slice none 0 0]⟩, ⟨g2, 71, jap⟩, ⟨g1, 28, [I m, .slice A l.length ca, .slice B ts.length cb, .slice C ns.length cc, I hd]⟩] := by exact E.drop (List.Sublist.cons _ Y.sl)
     refine Y.z <| ⟨(H), ?_⟩
     refine Y.A1 9 rfl rfl<|Y.st 0 E rfl (cA rfl) rfl ?_
     clear H E; intro w E
     have H : SH w0 [] w [⟨g8, 71, [I (jcn t (jbx ts)), I (jao ns).sum, .slice none 0 0, .slice none 0 0]⟩, ⟨g2, 71, jap⟩, ⟨g1, 28, [I m, .slice A l.length ca, .slice B ts.length cb, .slice C ns.length cc, I hd]⟩] := SH.drop (L := _ :: ([_, _, _] ++ (LN ++ [_, _]))) E (List.Sublist.cons _ Y.sl)
     refine Y.z <| ⟨(H), ?_⟩
     refine Y.t 10 H rfl rfl (fun w H => Ev.asI rfl)<|Y.dn ?_
     exact ⟨Y.ag, cst, g9, go, gp, _, mm, p, rfl, by omega, hP, SH.drop (L := [_, _, _, _] ++ (LN ++ [_, _])) E (List.Sublist.append (List.Sublist.refl [_, _, _, _]) (Y.sc.trans Y.sr))⟩
    ·try replace E := E.toBelow hbw6
     refine Y.al E rfl rfl ?_
     clear H E; intro g9 w E
     have H : SH w0 [] w [⟨g8, 71, [I (jcn t (jbx ts)), I (jao ns).sum, .slice none 0 0, .slice none 0 0]⟩, ⟨g2, 71, jap⟩, ⟨g1, 28, [I m, .slice A l.length ca, .slice B ts.length cb, .slice C ns.length cc, I hd]⟩] := by exact E.drop (List.Sublist.cons _ Y.sl)
     refine Y.z <| ⟨(H), ?_⟩
     refine Y.A1 4 rfl rfl ?_
     have hAt := (by exact hA.at (L' := [_, _, _, _] ++ LN) E Y.sr)
     refine Y.c2 38 rfl (Flo.refCheapest ((jbg ns).length + (jao ns).length + 2 : Nat) 0 1 (jao ns).sum NA (jfq (jbg ns) (jao ns) (jct m l ns)) ncap w hAt) ?_
     clear hAt
     rintro _ w ⟨most, hM, hgood⟩
     obtain ⟨cst, mm, go, gp, on, p, hmm, rfl, hP, Hc⟩ := hgood ((jdp hX hM).1 hH)
     refine ⟨_, rfl, ?_⟩
     replace E := SH.call (Lv := []) (by rw [List.append_nil]; exact E) Hc
     clear H Hc hgood
     have H : SH w0 [] w [⟨g8, 71, [I (jcn t (jbx ts)), I (jao ns).sum, .slice none 0 0, .slice none 0 0]⟩, ⟨g2, 71, jap⟩, ⟨g1, 28, [I m, .slice A l.length ca, .slice B ts.length cb, .slice C ns.length cc, I hd]⟩] := by exact SH.drop (L := _ :: ([_, _, _] ++ (LN ++ [_, _]))) E (List.Sublist.cons _ Y.sl)
     refine Y.z <| ⟨(H), ?_⟩
     refine Y.t 5 H rfl rfl (fun w H => Ev.mvT rfl)<|Y.t 6 H rfl rfl (fun w H => Ev.extract rfl rfl)<|Y.t 7 H rfl rfl (fun w H => Ev.extract rfl rfl)<|Y.A1 9 rfl rfl<|Y.st 0 E rfl (cA rfl) rfl ?_
     clear H E; intro w E
     have H : SH w0 [] w [⟨g8, 71, [I (jcn t (jbx ts)), I (jao ns).sum, .slice none 0 0, .slice none 0 0]⟩, ⟨g2, 71, jap⟩, ⟨g1, 28, [I m, .slice A l.length ca, .slice B ts.length cb, .slice C ns.length cc, I hd]⟩] := SH.drop (L := _ :: ([_, _, _] ++ (LN ++ [_, _]))) E (List.Sublist.cons _ Y.sl)
     refine Y.z <| ⟨(H), ?_⟩
     refine Y.t 10 H rfl rfl (fun w H => Ev.asI rfl)<|Y.dn ?_
     exact ⟨Y.ag, cst, g9, go, gp, _, mm, p, rfl, by omega, hP, SH.drop (L := [_, _, _, _] ++ (LN ++ [_, _])) E (List.Sublist.append (List.Sublist.refl [_, _, _, _]) (Y.sc.trans Y.sr))⟩
   ·try replace E := E.toBelow hbw6
    refine Y.al E rfl rfl ?_
    clear H E; intro g9 w E
    have H : SH w0 [] w [⟨g8, 71, [I (jcn t (jbx ts)), I (jao ns).sum, .slice none 0 0, .slice none 0 0]⟩, ⟨g2, 71, jap⟩, ⟨g1, 28, [I m, .slice A l.length ca, .slice B ts.length cb, .slice C ns.length cc, I hd]⟩] := by exact E.drop Y.sc
    refine Y.z <| ⟨(H), ?_⟩
    refine Y.A1 1 rfl rfl ?_
    try replace E := E.toBelow hbw6
    refine Y.c2 35 rfl (jeg m hd A B C l ts ns ca cb cc _ (hN.sh E) hK) ?_
    rintro _ w ⟨NA, ncap, LN, rfl, hA, Hc⟩
    refine ⟨_, rfl, ?_⟩
    replace E := SH.call (Lv := []) (by rw [List.append_nil]; exact E) Hc
    clear H Hc
    have H : SH w0 [] w [⟨g8, 71, [I (jcn t (jbx ts)), I (jao ns).sum, .slice none 0 0, .slice none 0 0]⟩, ⟨g2, 71, jap⟩, ⟨g1, 28, [I m, .slice A l.length ca, .slice B ts.length cb, .slice C ns.length cc, I hd]⟩] := by exact E.drop (List.Sublist.cons _ Y.sl)
    refine Y.z <| ⟨(H), ?_⟩
    refine Y.A1 4 rfl rfl ?_
    have hAt := (by exact hA.at (L' := [_, _, _, _] ++ LN) E Y.sr)
    refine Y.c2 38 rfl (Flo.refCheapest ((jbg ns).length + (jao ns).length + 2 : Nat) 0 1 (jao ns).sum NA (jfq (jbg ns) (jao ns) (jct m l ns)) ncap w hAt) ?_
    clear hAt
    rintro _ w ⟨most, hM, hgood⟩
    obtain ⟨cst, mm, go, gp, on, p, hmm, rfl, hP, Hc⟩ := hgood ((jdp hX hM).1 hH)
    refine ⟨_, rfl, ?_⟩
    replace E := SH.call (Lv := []) (by rw [List.append_nil]; exact E) Hc
    clear H Hc hgood
    have H : SH w0 [] w [⟨g8, 71, [I (jcn t (jbx ts)), I (jao ns).sum, .slice none 0 0, .slice none 0 0]⟩, ⟨g2, 71, jap⟩, ⟨g1, 28, [I m, .slice A l.length ca, .slice B ts.length cb, .slice C ns.length cc, I hd]⟩] := by exact SH.drop (L := _ :: ([_, _, _] ++ (LN ++ [_, _]))) E (List.Sublist.cons _ Y.sl)
    refine Y.z <| ⟨(H), ?_⟩
    refine Y.t 5 H rfl rfl (fun w H => Ev.mvT rfl)<|Y.t 6 H rfl rfl (fun w H => Ev.extract rfl rfl)<|Y.t 7 H rfl rfl (fun w H => Ev.extract rfl rfl)<|Y.A1 9 rfl rfl<|Y.st 0 E rfl (cA rfl) rfl ?_
    clear H E; intro w E
    have H : SH w0 [] w [⟨g8, 71, [I (jcn t (jbx ts)), I (jao ns).sum, .slice none 0 0, .slice none 0 0]⟩, ⟨g2, 71, jap⟩, ⟨g1, 28, [I m, .slice A l.length ca, .slice B ts.length cb, .slice C ns.length cc, I hd]⟩] := SH.drop (L := _ :: ([_, _, _] ++ (LN ++ [_, _]))) E (List.Sublist.cons _ Y.sl)
    refine Y.z <| ⟨(H), ?_⟩
    refine Y.t 10 H rfl rfl (fun w H => Ev.asI rfl)<|Y.dn ?_
    exact ⟨Y.ag, cst, g9, go, gp, _, mm, p, rfl, by omega, hP, SH.drop (L := [_, _, _, _] ++ (LN ++ [_, _])) E (List.Sublist.append (List.Sublist.refl [_, _, _, _]) (Y.sc.trans Y.sr))⟩
  clear H
  rintro u w ⟨cst, g9, go, gp, nl, mm, p, h9, hmm, hP, H⟩
  refine WP.know (t := 9) h9<|Y.q<|Y.q ?_
  have hpl := hP.1
  have hpb : ∀ i, -2181038080 ≤ p.getD i 0 ∧ p.getD i 0 ≤ 0 := fun i => by
   by_cases hi : i < p.length
   ·have := hP.2 i hi
    have e : p.getD i 0 = p[i] := by simp [hi]
    rw [e]; exact this
   ·simp [hi]
  have hpc : ∀ w, SH w0 [] w [⟨g9, 118, [I (jao ns).sum, I cst, .slice (some ⟨go, 0, none⟩) nl nl, .slice (some ⟨gp, 0, none⟩) mm mm]⟩, ⟨g2, 71, jap⟩, ⟨g1, 28, [I m, .slice A l.length ca, .slice B ts.length cb, .slice C ns.length cc, I hd]⟩, ⟨gp, 3, p.map I⟩] → ∀ i, i < p.length → w.cell? ⟨gp, 0 + i, none⟩ = some (I (p.getD i 0)) := fun w H i hi => by rw [Nat.zero_add]; exact jk6 H 3 rfl i hi
  replace H : SH w0 [] w ([⟨g8, 71, jcN (jcn t (jbx ts)) (jao ns).sum none 0 0 none 0 0⟩, ⟨g9, 118, [I (jao ns).sum, I cst, .slice (some ⟨go, 0, none⟩) nl nl, .slice (some ⟨gp, 0, none⟩) mm mm]⟩, ⟨g2, 71, jap⟩, ⟨g1, 28, [I m, .slice A l.length ca, .slice B ts.length cb, .slice C ns.length cc, I hd]⟩, ⟨gp, 3, p.map I⟩] ++ []) := by rw [List.append_nil]; exact H.reidx [1, 0, 2, 3, 4] (by decide) rfl
  refine Y.r<|Y.bz rfl<|WP.block<|WP.loop [11, 41, 42, 43, 44, 45, 46, 47, 48, 49, 50, 51, 52, 53, 54, 55, 56, 57, 58, 59, 60, 61, 62, 63] (fun k e w' => ∃ (j : Nat) (AU : Option Addr) (cu : Nat) (Lu : List Blk) (us : List Int), j + k = (jaC ns).length ∧ e 11 = I j ∧ OwnS AU cu j (us.map I) 3 1 Lu ∧ SH w0 [] w' ([⟨g8, 71, jcN (jcn t (jbx ts)) (jao ns).sum AU j cu none 0 0⟩, ⟨g9, 118, [I (jao ns).sum, I cst, .slice (some ⟨go, 0, none⟩) nl nl, .slice (some ⟨gp, 0, none⟩) mm mm]⟩, ⟨g2, 71, jap⟩, ⟨g1, 28, [I m, .slice A l.length ca, .slice B ts.length cb, .slice C ns.length cc, I hd]⟩, ⟨gp, 3, p.map I⟩] ++ Lu)) ((jaC ns).length) (⟨0, none, 0, [], [], by omega, rfl, OwnS.nil, H⟩) ?_
  clear H
  rintro k u w ⟨j, AU, cu, Lu, us, hk, h11, hOu, H⟩
  refine WP.know (t := 11) h11<|Y.qq<|Y.a rfl<|Y.sS rfl<|Y.E rfl<|Y.lt rfl<|Y.z ?_
  refine Y.i rfl (fun hc8 => ?_) fun hc8 => ?_
  ·have hlt : j < (jaC ns).length := by simpa using hc8
   have hb0 := hpb 0
   have hb1 := hpb (2 + j)
   refine Y.k<|Y.q<|WP.block ?_
   have E := H
   replace H := H.drop (L' := [⟨g9, 118, [I (jao ns).sum, I cst, .slice (some ⟨go, 0, none⟩) nl nl, .slice (some ⟨gp, 0, none⟩) mm mm]⟩, ⟨g2, 71, jap⟩, ⟨g1, 28, [I m, .slice A l.length ca, .slice B ts.length cb, .slice C ns.length cc, I hd]⟩, ⟨gp, 3, p.map I⟩]) (List.Sublist.cons _ Y.sl)
   refine WP.rheldC [47, 48, 49, 50, 51, 52, 53, 54, 55, 56, 57, 58, 59, 60, 61, 62, 63] (fun _ w' => ∃ (AU : Option Addr) (cu : Nat) (Lu : List Blk) (us : List Int), OwnS AU cu (j + 1) (us.map I) 3 1 Lu ∧ SH w0 [] w' ([⟨g8, 71, jcN (jcn t (jbx ts)) (jao ns).sum AU (j + 1) cu none 0 0⟩, ⟨g9, 118, [I (jao ns).sum, I cst, .slice (some ⟨go, 0, none⟩) nl nl, .slice (some ⟨gp, 0, none⟩) mm mm]⟩, ⟨g2, 71, jap⟩, ⟨g1, 28, [I m, .slice A l.length ca, .slice B ts.length cb, .slice C ns.length cc, I hd]⟩, ⟨gp, 3, p.map I⟩] ++ Lu)) mixed H ?_ ?_
   ·clear H; intro w hbw10 H
    refine Y.tf 0 H rfl<|Y.tf 2 H rfl<|Y.tl 3 H 0 rfl<|Y.t 4 H rfl rfl (fun w H => Y.m rfl)<|Y.t 5 H rfl rfl (fun w H => Y.p rfl rfl)<|Y.t 6 H rfl rfl (fun w H => Ev.indexAddr1 (j := 2 + j) (x7 rfl) (j4 rfl) rfl rfl (by omega) (by omega))<|Y.t 7 H rfl rfl (fun w H => Y.c (hpc w H (2 + j) (by omega)) rfl)<|Y.tf 8 H rfl<|Y.tl 9 H 0 rfl<|Y.t 10 H rfl rfl (fun w H => Ev.indexAddr1 (j := 0) (x7 rfl) (j4 rfl) rfl rfl rfl (by omega))<|Y.t 11 H rfl rfl (fun w H => Y.c (hpc w H 0 (by omega)) rfl)<|Y.t 12 H rfl rfl (fun w H => Y.s rfl rfl)<|Y.t 13 H rfl rfl (fun w H => Ev.max rfl rfl) ?_
    refine Y.A2 1 14 rfl rfl rfl ?_ ?_
    ·try replace E := E.toBelow hbw10
     refine Y.J E 0 rfl<|Y.z <| ⟨(H), ?_⟩
     refine Y.A1 14 rfl rfl ?_
     try replace E := E.toBelow hbw10
     refine OPS.buildSlice rfl rfl rfl rfl (jaJ rfl) E ?_
     clear H E; intro g69 w E
     have H := E.drop (L' := [⟨g9, 118, [I (jao ns).sum, I cst, .slice (some ⟨go, 0, none⟩) nl nl, .slice (some ⟨gp, 0, none⟩) mm mm]⟩, ⟨g2, 71, jap⟩, ⟨g1, 28, [I m, .slice A l.length ca, .slice B ts.length cb, .slice C ns.length cc, I hd]⟩, ⟨gp, 3, p.map I⟩]) (List.Sublist.cons _ (List.Sublist.cons _ Y.sl))
     refine Y.z <| ⟨(H), ?_⟩
     refine Y.A1 15 rfl rfl ?_
     generalize (if 0 < p.getD (2 + j) 0 - p.getD 0 0 then p.getD (2 + j) 0 - p.getD 0 0 else 0) = x at E
     refine OPS.append (m := 1) (news := [I x]) (R := [⟨g69, 3, [I x]⟩, ⟨g8, 71, jcN (jcn t (jbx ts)) (jao ns).sum AU j cu none 0 0⟩, ⟨g9, 118, [I (jao ns).sum, I cst, .slice (some ⟨go, 0, none⟩) nl nl, .slice (some ⟨gp, 0, none⟩) mm mm]⟩, ⟨g2, 71, jap⟩, ⟨g1, 28, [I m, .slice A l.length ca, .slice B ts.length cb, .slice C ns.length cc, I hd]⟩, ⟨gp, 3, p.map I⟩]) rfl rfl rfl rfl rfl (z8 rfl) rfl rfl hOu rfl (y0 E 0 rfl) rfl (by omega) (by unfold maxLen; omega) E (List.Perm.refl _) ?_
     clear H E; intro AU2 cu2 Lu2 w hOu E
     rw [show us.map I ++ [I x] = (us ++ [x]).map I by rw [List.map_append]; rfl] at hOu
     have H := E.drop (L' := [⟨g9, 118, [I (jao ns).sum, I cst, .slice (some ⟨go, 0, none⟩) nl nl, .slice (some ⟨gp, 0, none⟩) mm mm]⟩, ⟨g2, 71, jap⟩, ⟨g1, 28, [I m, .slice A l.length ca, .slice B ts.length cb, .slice C ns.length cc, I hd]⟩, ⟨gp, 3, p.map I⟩]) (List.Sublist.cons _ (List.Sublist.cons _ (List.sublist_append_left [_, _, _, _] _)))
     refine Y.z <| ⟨(H), ?_⟩
     refine Y.tf 16 H rfl<|Y.A1 17 rfl rfl ?_
     unfold jcN at E
     refine Y.st 1 E rfl (cS rfl) rfl ?_
     clear H E; intro w E
     have H := E.drop (L' := [⟨g9, 118, [I (jao ns).sum, I cst, .slice (some ⟨go, 0, none⟩) nl nl, .slice (some ⟨gp, 0, none⟩) mm mm]⟩, ⟨g2, 71, jap⟩, ⟨g1, 28, [I m, .slice A l.length ca, .slice B ts.length cb, .slice C ns.length cc, I hd]⟩, ⟨gp, 3, p.map I⟩]) (List.Sublist.cons _ (List.Sublist.cons _ (List.sublist_append_left [_, _, _, _] _)))
     refine Y.z <| ⟨(H), ?_⟩
     refine Y.dn ?_
     exact ⟨Y.ag, _, _, _, _, hOu, E.drop Y.sc⟩
    ·try replace E := E.toBelow hbw10
     refine OPS.buildSlice rfl rfl rfl rfl (jaJ rfl) E ?_
     clear H E; intro g69 w E
     have H := E.drop (L' := [⟨g9, 118, [I (jao ns).sum, I cst, .slice (some ⟨go, 0, none⟩) nl nl, .slice (some ⟨gp, 0, none⟩) mm mm]⟩, ⟨g2, 71, jap⟩, ⟨g1, 28, [I m, .slice A l.length ca, .slice B ts.length cb, .slice C ns.length cc, I hd]⟩, ⟨gp, 3, p.map I⟩]) (List.Sublist.cons _ (List.Sublist.cons _ Y.sl))
     refine Y.z <| ⟨(H), ?_⟩
     refine Y.A1 1 rfl rfl ?_
     try replace E := E.toBelow hbw10
     refine Y.J E 1 rfl<|Y.z <| ⟨(H), ?_⟩
     refine Y.A1 15 rfl rfl ?_
     generalize (if 0 < p.getD (2 + j) 0 - p.getD 0 0 then p.getD (2 + j) 0 - p.getD 0 0 else 0) = x at E
     refine OPS.append (m := 1) (news := [I x]) (R := [⟨g69, 3, [I x]⟩, ⟨g8, 71, jcN (jcn t (jbx ts)) (jao ns).sum AU j cu none 0 0⟩, ⟨g9, 118, [I (jao ns).sum, I cst, .slice (some ⟨go, 0, none⟩) nl nl, .slice (some ⟨gp, 0, none⟩) mm mm]⟩, ⟨g2, 71, jap⟩, ⟨g1, 28, [I m, .slice A l.length ca, .slice B ts.length cb, .slice C ns.length cc, I hd]⟩, ⟨gp, 3, p.map I⟩]) rfl rfl rfl rfl rfl (z8 rfl) rfl rfl hOu rfl (y0 E 0 rfl) rfl (by omega) (by unfold maxLen; omega) E (List.Perm.refl _) ?_
     clear H E; intro AU2 cu2 Lu2 w hOu E
     rw [show us.map I ++ [I x] = (us ++ [x]).map I by rw [List.map_append]; rfl] at hOu
     have H := E.drop (L' := [⟨g9, 118, [I (jao ns).sum, I cst, .slice (some ⟨go, 0, none⟩) nl nl, .slice (some ⟨gp, 0, none⟩) mm mm]⟩, ⟨g2, 71, jap⟩, ⟨g1, 28, [I m, .slice A l.length ca, .slice B ts.length cb, .slice C ns.length cc, I hd]⟩, ⟨gp, 3, p.map I⟩]) (List.Sublist.cons _ (List.Sublist.cons _ (List.sublist_append_left [_, _, _, _] _)))
     refine Y.z <| ⟨(H), ?_⟩
     refine Y.tf 16 H rfl<|Y.A1 17 rfl rfl ?_
     unfold jcN at E
     refine Y.st 1 E rfl (cS rfl) rfl ?_
     clear H E; intro w E
     have H := E.drop (L' := [⟨g9, 118, [I (jao ns).sum, I cst, .slice (some ⟨go, 0, none⟩) nl nl, .slice (some ⟨gp, 0, none⟩) mm mm]⟩, ⟨g2, 71, jap⟩, ⟨g1, 28, [I m, .slice A l.length ca, .slice B ts.length cb, .slice C ns.length cc, I hd]⟩, ⟨gp, 3, p.map I⟩]) (List.Sublist.cons _ (List.Sublist.cons _ (List.sublist_append_left [_, _, _, _] _)))
     refine Y.z <| ⟨(H), ?_⟩
     refine Y.dn ?_
     exact ⟨Y.ag, _, _, _, _, hOu, E.drop Y.sc⟩
   clear H
   rintro u w ⟨AU, cu, Lu, us, hOu, H⟩
   refine Y.r<|Y.a rfl<|Y.P rfl<|Y.bz rfl ?_
   exact ⟨Y.ag, k - 1, by omega, j + 1, AU, cu, Lu, us, by omega, rfl, hOu, H⟩
  have hj : j = (jaC ns).length := by simp at hc8; omega
  subst hj
  replace H := H.drop (L' := [⟨g8, 71, jcN (jcn t (jbx ts)) (jao ns).sum AU (jaC ns).length cu none 0 0⟩, ⟨g9, 118, [I (jao ns).sum, I cst, .slice (some ⟨go, 0, none⟩) nl nl, .slice (some ⟨gp, 0, none⟩) mm mm]⟩, ⟨g2, 71, jap⟩, ⟨g1, 28, [I m, .slice A l.length ca, .slice B ts.length cb, .slice C ns.length cc, I hd]⟩, ⟨gp, 3, p.map I⟩]) Y.sl
  replace H : SH w0 [] w ([⟨g8, 71, jcN (jcn t (jbx ts)) (jao ns).sum AU (jaC ns).length cu none 0 0⟩, ⟨g9, 118, [I (jao ns).sum, I cst, .slice (some ⟨go, 0, none⟩) nl nl, .slice (some ⟨gp, 0, none⟩) mm mm]⟩, ⟨g2, 71, jap⟩, ⟨g1, 28, [I m, .slice A l.length ca, .slice B ts.length cb, .slice C ns.length cc, I hd]⟩, ⟨gp, 3, p.map I⟩] ++ []) := by rw [List.append_nil]; exact H
  clear hOu
  refine WP.exit<|XB.hit<|Y.qq<|Y.bz rfl<|WP.block<|WP.loop [12, 64, 65, 66, 67, 68, 69, 70, 71, 72, 73, 74, 75, 76, 77, 78, 79, 80, 81, 82, 83, 84, 85, 86, 87, 88, 89] (fun k e w' => ∃ (j : Nat) (AV : Option Addr) (cv : Nat) (Lv : List Blk) (vs : List Int), j + k = (jaD ns).length ∧ e 12 = I j ∧ OwnS AV cv j (vs.map I) 3 1 Lv ∧ SH w0 [] w' ([⟨g8, 71, jcN (jcn t (jbx ts)) (jao ns).sum AU (jaC ns).length cu AV j cv⟩, ⟨g9, 118, [I (jao ns).sum, I cst, .slice (some ⟨go, 0, none⟩) nl nl, .slice (some ⟨gp, 0, none⟩) mm mm]⟩, ⟨g2, 71, jap⟩, ⟨g1, 28, [I m, .slice A l.length ca, .slice B ts.length cb, .slice C ns.length cc, I hd]⟩, ⟨gp, 3, p.map I⟩] ++ Lv)) ((jaD ns).length) (⟨0, none, 0, [], [], by omega, rfl, OwnS.nil, H⟩) ?_
  clear H
  rintro k u w ⟨j, AV, cv, Lv, vs, hk, h12, hOv, H⟩
  refine WP.know (t := 12) h12<|Y.qq<|Y.a rfl<|Y.sS rfl<|Y.E rfl<|Y.lt rfl<|Y.z ?_
  refine Y.i rfl (fun hc12 => ?_) fun hc12 => ?_
  ·have hlt : j < (jaD ns).length := by simpa using hc12
   have hb0 := hpb 0
   have hb1 := hpb (2 + (jaC ns).length + j)
   refine Y.k<|Y.q<|WP.block ?_
   have E := H
   replace H := H.drop (L' := [⟨g9, 118, [I (jao ns).sum, I cst, .slice (some ⟨go, 0, none⟩) nl nl, .slice (some ⟨gp, 0, none⟩) mm mm]⟩, ⟨g2, 71, jap⟩, ⟨g1, 28, [I m, .slice A l.length ca, .slice B ts.length cb, .slice C ns.length cc, I hd]⟩, ⟨gp, 3, p.map I⟩]) (List.Sublist.cons _ Y.sl)
   refine WP.rheldC [70, 71, 72, 73, 74, 75, 76, 77, 78, 79, 80, 81, 82, 83, 84, 85, 86, 87, 88, 89] (fun _ w' => ∃ (AV : Option Addr) (cv : Nat) (Lv : List Blk) (vs : List Int), OwnS AV cv (j + 1) (vs.map I) 3 1 Lv ∧ SH w0 [] w' ([⟨g8, 71, jcN (jcn t (jbx ts)) (jao ns).sum AU (jaC ns).length cu AV (j + 1) cv⟩, ⟨g9, 118, [I (jao ns).sum, I cst, .slice (some ⟨go, 0, none⟩) nl nl, .slice (some ⟨gp, 0, none⟩) mm mm]⟩, ⟨g2, 71, jap⟩, ⟨g1, 28, [I m, .slice A l.length ca, .slice B ts.length cb, .slice C ns.length cc, I hd]⟩, ⟨gp, 3, p.map I⟩] ++ Lv)) mixed H ?_ ?_
   ·clear H; intro w hbw14 H
    refine Y.tf 0 H rfl<|Y.tf 2 H rfl<|Y.tl 3 H 0 rfl<|Y.t 4 H rfl rfl (fun w H => Ev.mvS rfl)<|Y.t 5 H rfl rfl (fun w H => Y.n rfl)<|Y.t 6 H rfl rfl (fun w H => Y.p rfl rfl)<|Y.t 7 H rfl rfl (fun w H => Y.m rfl)<|Y.t 8 H rfl rfl (fun w H => Y.p rfl rfl)<|Y.t 9 H rfl rfl (fun w H => Ev.indexAddr1 (j := 2 + (jaC ns).length + j) (x7 rfl) (j4 rfl) rfl rfl (by omega) (by omega))<|Y.t 10 H rfl rfl (fun w H => Ev.load1 (j6 rfl) rfl (hpc w H (2 + (jaC ns).length + j) (by omega)))<|Y.tf 11 H rfl<|Y.tl 12 H 0 rfl<|Y.t 13 H rfl rfl (fun w H => Ev.indexAddr1 (j := 0) (x7 rfl) (j4 rfl) rfl rfl rfl (by omega))<|Y.t 14 H rfl rfl (fun w H => Y.c (hpc w H 0 (by omega)) rfl)<|Y.t 15 H rfl rfl (fun w H => Y.s rfl rfl)<|Y.t 16 H rfl rfl (fun w H => Ev.max rfl rfl) ?_
    refine Y.A2 1 17 rfl rfl rfl ?_ ?_
    ·try replace E := E.toBelow hbw14
     refine Y.J E 0 rfl<|Y.z <| ⟨(H), ?_⟩
     refine Y.A1 17 rfl rfl ?_
     try replace E := E.toBelow hbw14
     refine OPS.buildSlice rfl rfl rfl rfl (jaJ rfl) E ?_
     clear H E; intro g69 w E
     have H := E.drop (L' := [⟨g9, 118, [I (jao ns).sum, I cst, .slice (some ⟨go, 0, none⟩) nl nl, .slice (some ⟨gp, 0, none⟩) mm mm]⟩, ⟨g2, 71, jap⟩, ⟨g1, 28, [I m, .slice A l.length ca, .slice B ts.length cb, .slice C ns.length cc, I hd]⟩, ⟨gp, 3, p.map I⟩]) (List.Sublist.cons _ (List.Sublist.cons _ Y.sl))
     refine Y.z <| ⟨(H), ?_⟩
     refine Y.A1 18 rfl rfl ?_
     generalize (if 0 < p.getD (2 + (jaC ns).length + j) 0 - p.getD 0 0 then p.getD (2 + (jaC ns).length + j) 0 - p.getD 0 0 else 0) = x at E
     refine OPS.append (m := 1) (news := [I x]) (R := [⟨g69, 3, [I x]⟩, ⟨g8, 71, jcN (jcn t (jbx ts)) (jao ns).sum AU (jaC ns).length cu AV j cv⟩, ⟨g9, 118, [I (jao ns).sum, I cst, .slice (some ⟨go, 0, none⟩) nl nl, .slice (some ⟨gp, 0, none⟩) mm mm]⟩, ⟨g2, 71, jap⟩, ⟨g1, 28, [I m, .slice A l.length ca, .slice B ts.length cb, .slice C ns.length cc, I hd]⟩, ⟨gp, 3, p.map I⟩]) rfl rfl rfl rfl rfl (z8 rfl) rfl rfl hOv rfl (y0 E 0 rfl) rfl (by omega) (by unfold maxLen; omega) E (List.Perm.refl _) ?_
     clear H E; intro AV2 cv2 Lv2 w hOv E
     rw [show vs.map I ++ [I x] = (vs ++ [x]).map I by rw [List.map_append]; rfl] at hOv
     have H := E.drop (L' := [⟨g9, 118, [I (jao ns).sum, I cst, .slice (some ⟨go, 0, none⟩) nl nl, .slice (some ⟨gp, 0, none⟩) mm mm]⟩, ⟨g2, 71, jap⟩, ⟨g1, 28, [I m, .slice A l.length ca, .slice B ts.length cb, .slice C ns.length cc, I hd]⟩, ⟨gp, 3, p.map I⟩]) (List.Sublist.cons _ (List.Sublist.cons _ (List.sublist_append_left [_, _, _, _] _)))
     refine Y.z <| ⟨(H), ?_⟩
     refine Y.tf 19 H rfl<|Y.A1 20 rfl rfl ?_
     unfold jcN at E
     refine Y.st 1 E rfl (cS rfl) rfl ?_
     clear H E; intro w E
     have H := E.drop (L' := [⟨g9, 118, [I (jao ns).sum, I cst, .slice (some ⟨go, 0, none⟩) nl nl, .slice (some ⟨gp, 0, none⟩) mm mm]⟩, ⟨g2, 71, jap⟩, ⟨g1, 28, [I m, .slice A l.length ca, .slice B ts.length cb, .slice C ns.length cc, I hd]⟩, ⟨gp, 3, p.map I⟩]) (List.Sublist.cons _ (List.Sublist.cons _ (List.sublist_append_left [_, _, _, _] _)))
     refine Y.z <| ⟨(H), ?_⟩
     refine Y.dn ?_
     exact ⟨Y.ag, _, _, _, _, hOv, E.drop Y.sc⟩
    ·try replace E := E.toBelow hbw14
     refine OPS.buildSlice rfl rfl rfl rfl (jaJ rfl) E ?_
     clear H E; intro g69 w E
     have H := E.drop (L' := [⟨g9, 118, [I (jao ns).sum, I cst, .slice (some ⟨go, 0, none⟩) nl nl, .slice (some ⟨gp, 0, none⟩) mm mm]⟩, ⟨g2, 71, jap⟩, ⟨g1, 28, [I m, .slice A l.length ca, .slice B ts.length cb, .slice C ns.length cc, I hd]⟩, ⟨gp, 3, p.map I⟩]) (List.Sublist.cons _ (List.Sublist.cons _ Y.sl))
     refine Y.z <| ⟨(H), ?_⟩
     refine Y.A1 1 rfl rfl ?_
     try replace E := E.toBelow hbw14
     refine Y.J E 1 rfl<|Y.z <| ⟨(H), ?_⟩
     refine Y.A1 18 rfl rfl ?_
     generalize (if 0 < p.getD (2 + (jaC ns).length + j) 0 - p.getD 0 0 then p.getD (2 + (jaC ns).length + j) 0 - p.getD 0 0 else 0) = x at E
     refine OPS.append (m := 1) (news := [I x]) (R := [⟨g69, 3, [I x]⟩, ⟨g8, 71, jcN (jcn t (jbx ts)) (jao ns).sum AU (jaC ns).length cu AV j cv⟩, ⟨g9, 118, [I (jao ns).sum, I cst, .slice (some ⟨go, 0, none⟩) nl nl, .slice (some ⟨gp, 0, none⟩) mm mm]⟩, ⟨g2, 71, jap⟩, ⟨g1, 28, [I m, .slice A l.length ca, .slice B ts.length cb, .slice C ns.length cc, I hd]⟩, ⟨gp, 3, p.map I⟩]) rfl rfl rfl rfl rfl (z8 rfl) rfl rfl hOv rfl (y0 E 0 rfl) rfl (by omega) (by unfold maxLen; omega) E (List.Perm.refl _) ?_
     clear H E; intro AV2 cv2 Lv2 w hOv E
     rw [show vs.map I ++ [I x] = (vs ++ [x]).map I by rw [List.map_append]; rfl] at hOv
     have H := E.drop (L' := [⟨g9, 118, [I (jao ns).sum, I cst, .slice (some ⟨go, 0, none⟩) nl nl, .slice (some ⟨gp, 0, none⟩) mm mm]⟩, ⟨g2, 71, jap⟩, ⟨g1, 28, [I m, .slice A l.length ca, .slice B ts.length cb, .slice C ns.length cc, I hd]⟩, ⟨gp, 3, p.map I⟩]) (List.Sublist.cons _ (List.Sublist.cons _ (List.sublist_append_left [_, _, _, _] _)))
     refine Y.z <| ⟨(H), ?_⟩
     refine Y.tf 19 H rfl<|Y.A1 20 rfl rfl ?_
     unfold jcN at E
     refine Y.st 1 E rfl (cS rfl) rfl ?_
     clear H E; intro w E
     have H := E.drop (L' := [⟨g9, 118, [I (jao ns).sum, I cst, .slice (some ⟨go, 0, none⟩) nl nl, .slice (some ⟨gp, 0, none⟩) mm mm]⟩, ⟨g2, 71, jap⟩, ⟨g1, 28, [I m, .slice A l.length ca, .slice B ts.length cb, .slice C ns.length cc, I hd]⟩, ⟨gp, 3, p.map I⟩]) (List.Sublist.cons _ (List.Sublist.cons _ (List.sublist_append_left [_, _, _, _] _)))
     refine Y.z <| ⟨(H), ?_⟩
     refine Y.dn ?_
     exact ⟨Y.ag, _, _, _, _, hOv, E.drop Y.sc⟩
   clear H
   rintro u w ⟨AV, cv, Lv, vs, hOv, H⟩
   refine Y.r<|Y.a rfl<|Y.P rfl<|Y.bz rfl ?_
   exact ⟨Y.ag, k - 1, by omega, j + 1, AV, cv, Lv, vs, by omega, rfl, hOv, H⟩
  have hj : j = (jaD ns).length := by simp at hc12; omega
  subst hj
  clear hOv
  unfold jcN jap at H
  simp only [List.cons_append, List.nil_append] at H
  refine WP.exit<|XB.hit<|Y.qr<|Y.O H 0 rfl<|Y.ss 2 H rfl (cA rfl) rfl ?_
  clear H; intro w H
  refine Y.bz rfl ?_
  refine WP.ret ⟨[_, _], ⟨(by exact x6 2 H rfl (j6 rfl) (j4 rfl) (by rfl) rfl), rfl, trivial⟩, ?_⟩
  refine ⟨jcn t (jbx ts), (jao ns).sum, AU, AV, (jaC ns).length, cu, (jaD ns).length, cv, by rw [h0]; rfl, ⟨fun _ => ⟨fun us vs T hS => by rw [htS us vs T hS], rfl⟩⟩, H.below⟩
 ·have h0' := h0
  refine Calls.ofWPc Tryz.func40 rfl Tryz.results40 Tryz.ntmps40 rfl<|Y.qr<|Y.bx (cA rfl) H ?_
  clear H; intro g1 w H
  refine Y.al H rfl rfl ?_
  clear H; intro g2 w H
  refine Y.bz rfl<|Y.qr<|Y.O H 1 rfl<|Y.c2 15 rfl (jia n hd A B C l ts ns ca cb cc w (hN.sh H)) ?_
  rintro _ w ⟨t, er, rfl, hR, hb⟩
  refine ⟨_, rfl, ?_⟩
  replace H := H.toBelow hb; clear hb
  unfold jap at *
  refine Y.T rfl<|Y.G rfl<|Y.G rfl<|Y.b rfl<|Y.bz rfl<|Y.qq<|Y.a rfl<|Y.V rfl<|Y.z ?_
  refine Y.i rfl (fun hc2 => ?_) fun hc2 => ?_
  ·refine Y.qr<|Y.v (Ev.build (jda (e := fun _ => .int .i64 0)))<|Y.a rfl<|Y.ss 0 H rfl (cA rfl) rfl ?_
   clear H; intro w H
   refine Y.bz rfl ?_
   refine WP.ret ⟨[_, _], ⟨(by exact x6 0 H rfl (j6 rfl) (j4 rfl) (by rfl) rfl), rfl, trivial⟩, ?_⟩
   exact ⟨0, 0, none, none, 0, 0, 0, 0, by rw [← hR.err]; rfl, ⟨fun h => absurd h h0⟩, H.below⟩
  refine Y.k<|Y.q ?_
  exact absurd hc2 (by rw [hR.err]; simp [h0])
end Go.Proofs.YtgcokllbophkkaaGreat
namespace Go.W
open Go.RowKit
section
variable {P : Program} {N : Nat} {m : Md} {ops : Array Oper} {K : Env → World → Prop} {e : Env} {w w0 : World} {S : List Nat} {L : List Blk} {fuel : Nat} {listed : Array Bool} {rest : List Oper} {o : Oper}
theorem WP.scope {c : Code} {Kn : Env → World → Prop} {Kx : Nat → Env → World → Prop} {Kr : Env → World → Prop} (h : WP P N c Kn Kx Kr e w) : WP P N (.scope c) Kn Kx Kr e w :=
 ⟨fun a h1 h2 h3 => wp_scope_straight (Code.wp_mono (fun ex a w h => by cases ex <;> simp only [post, Exit.noGoto] at h ⊢ <;> try exact h) (h.run a h1 h2 h3))⟩
theorem OPS.gnoN {d : Option Nat} {j dj : Nat} {want : Bool} (hg : o.guard = some (j, want)) (hj : ops[j]?.bind (·.dst) = some dj) (hb : GB (e dj) want false) (hd : o.dst = d) (hN : (d.all fun d => Nat.blt d N) = true)
  (h : OPS P N m ops K rest (updo e d undef) w) : OPS P N m ops K (o :: rest) e w :=
 ⟨fun a h1 h2 h3 => by
  have hy := jfQ (a := a) (want := want) (q := false) hj (h1 ▸ hb)
  have hwt : Region.wanted o (yielded ops a.tmps) = false := by simp only [Region.wanted, hg]; exact hy
  have hn := h.run (a.put d undef) (by rw [jek d _ h2 hN, h1]) (by rw [size_put]; exact h2) (by rw [jaU]; exact h3)
  cases m with
  | plain => simp only at hn ⊢; unfold wpList; rw [hwt, hd]; exact hn
  | still => simp only at hn ⊢; unfold wpStill; rw [hwt, hd]; exact hn
  | quiet => simp only at hn ⊢; unfold wpQuiet; rw [hwt, hd]; exact hn⟩
theorem OPH.takeY (i : Nat) {oi : Oper} {d j dj : Nat} {want : Bool} {v : Value} {f : Nat} (hi : ops[i]? = some oi) (hg : oi.guard = some (j, want)) (hj : ops[j]?.bind (·.dst) = some dj) (hb : e dj = .bool want) (hd : oi.dst = some d) (hN : Nat.blt d N = true) (hs : Region.noSelect ops = true) (hf : Region.free .any ops listed i = true)
  (hr : (Region.ready .any ops listed).contains i = true) (hfu : fuel = f + 1) (H : SH w0 S w L) (hE : ∀ w', SH w0 S w' L → Ev P e w' oi.type oi.op v)
  (h : OPH P N ops K w0 S L f (listed.setIfInBounds i true) (upd e d v) w) : OPH P N ops K w0 S L fuel listed e w :=
 ⟨fun a h1 h2 h3 => by
  subst hfu
  have hy := jcc (a := a) hj (h1 ▸ hb)
  have hwt : Region.wanted oi (yielded ops a.tmps) = true := by simp [Region.wanted, hg, hy]
  have hn := h.run (a.put (some d) v) (by rw [jbt v h2 hN, h1]) (by rw [size_put]; exact h2) (by rw [jaU]; exact h3)
  refine wpAnyH_take hi hs hf hr (fun c a w hh => by simp only [post] at hh) (v := v) (.inl ⟨hwt, fun w' hw' => ?_⟩) H (by rw [hd]; exact hn)
  have := (hE w' hw').run w' (Below.refl _ _) oi rfl rfl
  rw [jbW, h1]; exact this⟩
end
section
variable {P : Program} {e : Env} {w : World} {ty t : TypeId} {x y : Operand}
theorem Ev.eqlSn {t' : TypeId} {el : TypeId} {a : Option Addr} {n c n' c' : Nat} (hU : ∀ w, (underlying t).run P w = .ok (.slice el) w) (hx : ev e x = .slice a n c) (hy : ev e y = .slice none n' c') : Ev P e w ty (.binOp .eql t x y t') (.bool a.isNone) :=
 ⟨fun w' _ o ho _ => by
  have hq : ∀ w, (Op.equal t (.slice a n c) (.slice none n' c')).run P w = .ok a.isNone w := by
   intro w
   unfold Op.equal
   rw [show Op.maxDepth = 9999 + 1 from rfl, Op.equalIn]
   cases a <;> simp [hU]
  unfold execOp; rw [ho]; simp [hx, hy, eqGuard, binOp, hq]⟩
end
end Go.W
