/-
 Plain: the chapter's nights.
-/
import Derived.Test.YtgcokllbophkkaaGreatK7
import Derived.Test.YtgcokllbophkkaaGreatB4
import Derived.Test.YtgcokllbophkkaaGreatRM3
import Derived.Test.YtgcokllbophkkaaGreatT10
import Derived.Test.YtgcokllbophkkaaGreatPtr
import Derived.Test.YtgcokllbophkkaaGreatB1
import Derived.Test.YtgcokllbophkkaaGreatI1
import Derived.Test.YtgcokllbophkkaaGreatT22
import Derived.Test.YtgcokllbophkkaaGreatFT18
set_option linter.all false
set_option maxHeartbeats 4000000
namespace Go.Proofs.YtgcokllbophkkaaGreat
open Go Go.W Go.RowKit
def tL : List Edg := [⟨0, 1, 60⟩, ⟨1, 0, 60⟩, ⟨1, 2, 30⟩, ⟨2, 1, 30⟩, ⟨0, 2, 80⟩, ⟨2, 0, 80⟩]
def tT (c : Int) : List q9 := [⟨0, c, 0, 3600⟩]
def tN : List z6 := [⟨1, 8⟩, ⟨2, -5⟩]
theorem tE10 : q7 3 tL (tT 10) tN 10 = 0 := by decide
theorem tE7 : q7 3 tL (tT 7) tN 10 = 0 := by decide
theorem jlp : jaL 3 tL := by
 obtain ⟨m, hm, hN⟩ := jaO tE10
 obtain rfl : m = 3 := by omega
 exact hN.road
theorem tEdge {i u v : Nat} {w : Int} (h : jb3 tL i u v w) : (u = 0 ∧ v = 1 ∧ w = 60) ∨ (u = 1 ∧ v = 0 ∧ w = 60) ∨ (u = 1 ∧ v = 2 ∧ w = 30) ∨ (u = 2 ∧ v = 1 ∧ w = 30) ∨ (u = 0 ∧ v = 2 ∧ w = 80) ∨ (u = 2 ∧ v = 0 ∧ w = 80) := by
 obtain ⟨hi, h1, h2, h3⟩ := h
 have hi6 : i < 6 := hi
 match i, hi6, hi, h1, h2, h3 with
 | 0, _, _, h1, h2, h3 => have h1 : (0 : Int) = u := h1; have h2 : (1 : Int) = v := h2; have h3 : (60 : Int) = w := h3; omega
 | 1, _, _, h1, h2, h3 => have h1 : (1 : Int) = u := h1; have h2 : (0 : Int) = v := h2; have h3 : (60 : Int) = w := h3; omega
 | 2, _, _, h1, h2, h3 => have h1 : (1 : Int) = u := h1; have h2 : (2 : Int) = v := h2; have h3 : (30 : Int) = w := h3; omega
 | 3, _, _, h1, h2, h3 => have h1 : (2 : Int) = u := h1; have h2 : (1 : Int) = v := h2; have h3 : (30 : Int) = w := h3; omega
 | 4, _, _, h1, h2, h3 => have h1 : (0 : Int) = u := h1; have h2 : (2 : Int) = v := h2; have h3 : (80 : Int) = w := h3; omega
 | 5, _, _, h1, h2, h3 => have h1 : (2 : Int) = u := h1; have h2 : (0 : Int) = v := h2; have h3 : (80 : Int) = w := h3; omega
def ta3 (a b c : Int) (v : Nat) : Int := if v = 0 then a else if v = 1 then b else c
theorem tRD {s : Nat} {a b c : Int} (h0 : ta3 a b c s = 0) (ha : 0 ≤ a) (hb : 0 ≤ b) (hc : 0 ≤ c) (hclo : b ≤ a + 60 ∧ a ≤ b + 60 ∧ c ≤ b + 30 ∧ b ≤ c + 30 ∧ c ≤ a + 80 ∧ a ≤ c + 80)
  (hpar : ∀ v, v < 3 → v ≠ s → ∃ u i w, u < 3 ∧ jb3 tL i u v w ∧ ta3 a b c v = ta3 a b c u + w) : RD tL 3 s (fun _ => true) (ta3 a b c) where
 src := ⟨rfl, h0⟩
 clo i u v w hE _ _ _ := by
  refine ⟨rfl, ?_⟩
  rcases tEdge hE with ⟨rfl, rfl, rfl⟩ | ⟨rfl, rfl, rfl⟩ | ⟨rfl, rfl, rfl⟩ | ⟨rfl, rfl, rfl⟩ | ⟨rfl, rfl, rfl⟩ | ⟨rfl, rfl, rfl⟩ <;> simp [ta3] <;> omega
 par v hv _ hvs := by
  obtain ⟨u, i, w, h1, h2, h3⟩ := hpar v hv hvs
  exact ⟨u, i, w, h1, rfl, h2, h3⟩
 nn v _ _ := by unfold ta3; split <;> (try split) <;> omega
theorem tRD0 : RD tL 3 0 (fun _ => true) (ta3 0 60 80) := tRD rfl (by omega) (by omega) (by omega) (by omega) fun v hv hne => by
 rcases (show v = 1 ∨ v = 2 by omega) with rfl | rfl
 ·exact ⟨0, 0, 60, by omega, ⟨by decide, rfl, rfl, rfl⟩, rfl⟩
 ·exact ⟨0, 4, 80, by omega, ⟨by decide, rfl, rfl, rfl⟩, rfl⟩
theorem tRD1 : RD tL 3 1 (fun _ => true) (ta3 60 0 30) := tRD rfl (by omega) (by omega) (by omega) (by omega) fun v hv hne => by
 rcases (show v = 0 ∨ v = 2 by omega) with rfl | rfl
 ·exact ⟨1, 1, 60, by omega, ⟨by decide, rfl, rfl, rfl⟩, rfl⟩
 ·exact ⟨1, 2, 30, by omega, ⟨by decide, rfl, rfl, rfl⟩, rfl⟩
theorem tRD2 : RD tL 3 2 (fun _ => true) (ta3 80 30 0) := tRD rfl (by omega) (by omega) (by omega) (by omega) fun v hv hne => by
 rcases (show v = 0 ∨ v = 1 by omega) with rfl | rfl
 ·exact ⟨2, 5, 80, by omega, ⟨by decide, rfl, rfl, rfl⟩, rfl⟩
 ·exact ⟨2, 3, 30, by omega, ⟨by decide, rfl, rfl, rfl⟩, rfl⟩
theorem t00 : x9 3 tL 0 0 = 0 := by rw [jb5 jlp tRD0 (by omega)]; rfl
theorem t01 : x9 3 tL 0 1 = 60 := by rw [jb5 jlp tRD0 (by omega)]; rfl
theorem t02 : x9 3 tL 0 2 = 80 := by rw [jb5 jlp tRD0 (by omega)]; rfl
theorem t12 : x9 3 tL 1 2 = 30 := by rw [jb5 jlp tRD1 (by omega)]; rfl
theorem t20 : x9 3 tL 2 0 = 80 := by rw [jb5 jlp tRD2 (by omega)]; rfl
theorem tW01 : y7 3 tL (tT 10) tN 10 0 [0, 1] = 0 := by
 rw [y7, if_neg (by rw [tE10]; decide), if_neg (by decide)]
 simp [jg8, goE, goT, goD, jac, jaw, jat, jbP, inB, y3, jce, tN, tT, t01, t12, t20, jdR]
theorem tD01 : jf3 3 tL (tT 10) tN 10 0 [0, 1] = 170 := by
 rw [jf3, if_pos tW01]
 simp [jef, jg8, goT, goD, jac, jaw, jbP, y3, jf9, jiE, tN, tT, t01, t12, t20]
theorem tW7 : y7 3 tL (tT 7) tN 10 0 [] = 0 := by
 rw [y7, if_neg (by rw [tE7]; decide), if_neg (by decide)]
 simp [jg8, goE, goT, goD, jac, y3, jce, tT, t00]
theorem tW10 : y7 3 tL (tT 10) tN 10 0 [1, 0] ≠ 0 := by
 rw [y7, if_neg (by rw [tE10]; decide), if_neg (by decide)]
 simp [goE, goD, jac, jaw, jat, inB, y3, tN, tT, t02]
theorem tW0 (x : List Int) (hr : y4 (tT 7) tN 0 (0 :: x) = 0) : y7 3 tL (tT 7) tN 10 0 (0 :: x) ≠ 0 := by
 rw [y7, if_neg (by rw [tE7]; decide), if_neg (by rw [hr]; decide)]
 simp [goE, goD, jac, jaw, jat, inB, y3, tN, tT, t01]
theorem tW1 (x : List Int) (hr : y4 (tT 7) tN 0 (1 :: x) = 0) : y7 3 tL (tT 7) tN 10 0 (1 :: x) ≠ 0 := by
 rw [y7, if_neg (by rw [tE7]; decide), if_neg (by rw [hr]; decide)]
 simp [goE, goD, jac, jaw, jat, inB, y3, tN, tT, t02]
theorem of01 {o : List Int} (h1 : o.Nodup) (h2 : ∀ i ∈ o, i ∈ [(0 : Int), 1]) : o = [] ∨ o = [0] ∨ o = [1] ∨ o = [0, 1] ∨ o = [1, 0] := by
 have h4 := h1.length_le_of_subset (l₂ := [0, 1]) h2
 match o, h1, h2, h4 with
 | [], _, _, _ => simp
 | [a], _, h2, _ =>
  have := h2 a (by simp)
  simp at this
  rcases this with rfl | rfl <;> simp
 | [a, b], h1, h2, _ =>
  have ha := h2 a (by simp)
  have hb := h2 b (by simp)
  simp at ha hb
  rcases ha with rfl | rfl <;> rcases hb with rfl | rfl <;> first | (exact absurd h1 (by decide)) | simp
theorem tR10 : jcR 3 tL (tT 10) tN 10 0 [0, 1] [0, 1] := .inl ⟨by decide, ⟨⟨⟨by decide, fun i hi => hi⟩, tW01⟩, fun o ho => by
 obtain ⟨⟨h1, h2⟩, h3⟩ := ho
 have hm : mvL tN [0, 1] = 13 := by decide
 rcases of01 h1 h2 with rfl | rfl | rfl | rfl | rfl
 ·rintro (h | ⟨h, _⟩) <;> exact absurd h (by decide)
 ·rintro (h | ⟨h, _⟩) <;> exact absurd h (by decide)
 ·rintro (h | ⟨h, _⟩) <;> exact absurd h (by decide)
 ·exact je4 _ _ _
 ·exact absurd h3 tW10⟩⟩
theorem tR7 : jcR 3 tL (tT 7) tN 10 0 [0, 1] [] := .inl ⟨by decide, ⟨⟨⟨by decide, by simp⟩, tW7⟩, fun o ho => by
 obtain ⟨⟨h1, h2⟩, h3⟩ := ho
 rcases of01 h1 h2 with rfl | rfl | rfl | rfl | rfl
 ·exact je4 _ _ _
 ·exact absurd h3 (tW0 [] (by decide))
 ·exact absurd h3 (tW1 [] (by decide))
 ·exact absurd h3 (tW0 [1] (by decide))
 ·exact absurd h3 (tW1 [0] (by decide))⟩⟩
theorem tMk10 {e : Int} {R : List (Int × List Int)} {left : List Int} (h : jei tL (tT 10) tN 10 3 e R left) : e = 0 ∧ R = [(0, [0, 1])] ∧ left = [] := by
 refine h.unique (e' := 0) (R' := [(0, [0, 1])]) (left' := []) ⟨tE10.symm, fun h => absurd rfl h, fun _ => ⟨3, rfl, ?_⟩⟩
 have h0 : MkR 3 tL (tT 10) tN 10 0 [] [0, 1] := MkR.start
 exact MkR.add h0 tR10 (by simp)
theorem tMk7 {e : Int} {R : List (Int × List Int)} {left : List Int} (h : jei tL (tT 7) tN 10 3 e R left) : e = 0 ∧ R = [] ∧ left = [0, 1] := by
 refine h.unique (e' := 0) (R' := []) (left' := [0, 1]) ⟨tE7.symm, fun h => absurd rfl h, fun _ => ⟨3, rfl, ?_⟩⟩
 have h0 : MkR 3 tL (tT 7) tN 10 0 [] [0, 1] := MkR.start
 exact MkR.skip h0 tR7
theorem tPl10 {r : Rt} (h1 : r.trk = 0) (h2 : r.nd.l = [0, 1]) : jab 3 tL (tT 10) tN 10 [r] [] = 0 := by
 have hr : jbs 3 tL (tT 10) tN 10 [r] = 0 := by
  rw [jbs, h1, h2, tW01]; simp [jbs]
 have ha : jbQ [r] = [0, 1] := by simp [jbQ, h2]
 rw [jab, if_neg (by rw [tE10]; simp), if_neg (by rw [hr]; simp), ha, List.map_cons, h1]
 decide
theorem tPl7 : jab 3 tL (tT 7) tN 10 [] [0, 1] = 0 := by
 rw [jab, if_neg (by rw [tE7]; simp), if_neg (by simp [jbs])]
 decide
theorem tDr10 {r : Rt} (h1 : r.trk = 0) (h2 : r.nd.l = [0, 1]) : jfp 3 tL (tT 10) tN 10 [r] = 170 := by
 unfold jfp; simp [h1, h2, tD01]
theorem tTm : jct 3 tL tN = [[30]] := by
 have h : jct 3 tL tN = [[x9 3 tL 1 2]] := rfl
 rw [h, t12]
theorem tFe : jav 3 tL (tT 10) tN 10 = 0 := by
 rw [jav, if_neg (by rw [tE10]; simp), show (3 : Int).toNat = 3 from rfl, tTm, jaR, if_neg (by decide), if_pos]
 intro u v hu hF
 have := hF 0 0 30 rfl (by omega)
 have := hu 0
 show Flo.dn [5] v ≤ Flo.dn [8] u
 simp [Flo.dn]; omega
theorem tDM : Flo.DMax [8] [5] [[30]] 150 := by
 refine ⟨⟨fun _ => 0, fun _ => 30, fun _ => Int.le_refl _, fun j k x h _ => by obtain ⟨_, _, rfl⟩ := tm1 h; show (30 : Int) ≤ 0 + 1 * 30; omega, by simp [Flo.dn]⟩, fun u v hu hF => ?_⟩
 have := hF 0 0 30 rfl (by omega)
 have := hu 0
 simp [Flo.dn]; omega
theorem tSecs {s b : Int} {us vs : List Int} (h : jeq 3 tL (tT 10) tN 10 s b us vs) : s = 15 := by
 obtain ⟨m, T, hm, _, hS, h1, h2, _⟩ := h.good tFe
 obtain rfl : m = 3 := by omega
 have hx := hS.max
 rw [tTm] at hx
 obtain rfl : T = 150 := hx.unique tDM
 exact h1.trans (by decide)
theorem tGap {r : Rt} (h1 : r.trk = 0) (h2 : r.nd.l = [0, 1]) : jfA 3 tL (tT 10) tN 10 [r] [] = 0 := by
 rw [jfA, if_neg (by rw [tPl10 h1 h2]; simp), if_neg (by simp), tFe]
theorem tGapV {r : Rt} {x : Int} (h1 : r.trk = 0) (h2 : r.nd.l = [0, 1]) (h : jk1 3 tL (tT 10) tN 10 [r] [] x) : x = 155 := by
 obtain ⟨_, _, _, s, b, us, vs, hR, rfl⟩ := h.good (tGap h1 h2)
 rw [tDr10 h1 h2, tSecs hR]; rfl
theorem tVal7 : jlC 3 tL (tT 7) tN 10 [] [0, 1] = 13 ∧ jiD 3 tL (tT 7) tN 10 [] [0, 1] = 0 := by
 rw [jlC, jiD, if_pos tPl7, if_pos tPl7]
 exact ⟨by decide, rfl⟩
theorem jmQ (e l d : Int) : betB e e l l d d = false := by unfold betB; simp
end Go.Proofs.YtgcokllbophkkaaGreat
namespace Go.Proofs.YtgcokllbophkkaaGreat
open Go Go.W Go.RowKit
theorem jjV (A B : Option Addr) (a b : List Int) (ca cb : Nat) (w0 : World) (ha : k9 w0 A a) (hb : k9 w0 B b) (hal : a.length ≤ 1000) (hbl : b.length ≤ 1000) :
  Calls Tryz.prog 35 #[.slice A a.length ca, .slice B b.length cb] w0 fun e w' => e = .returned (.bool (decide (a = b))) ∧ Below w0.heap.size w0 w' := by
 have H := SH.refl w0
 refine Calls.ofWP Tryz.func35 rfl Tryz.results35 Tryz.ntmps35 rfl<|Y.qr<|Y.aB rfl<|Y.z<|Y.qq<|Y.sS rfl<|Y.E rfl<|Y.sS rfl<|Y.E rfl<|Y.V rfl<|Y.z ?_
 refine WP.cond rfl (fun hc1 => ?_) (fun hc1 => ?_)
 ·refine Y.qr<|Y.aB rfl<|Y.z ?_
  refine WP.ret ⟨_, rfl, ?_⟩
  have h : a ≠ b := by
   rintro rfl
   simp at hc1
  exact ⟨by rw [decide_eq_false h]; rfl, H.below⟩
 have hlen : a.length = b.length := by
  have : (a.length : Int) = b.length := by simpa using hc1
  omega
 refine Y.k<|Y.qq<|Y.bz rfl<|WP.block<|WP.loop [4, 5, 11, 12, 13, 14, 15, 16, 17, 18, 19, 20, 21, 22, 23, 24, 25] (fun k e w' => ∃ j : Nat, j + k = a.length ∧ e 5 = I j ∧ (∀ i (h : i < a.length) (h2 : i < b.length), i < j → a[i] = b[i]) ∧ SH w0 [] w' []) (a.length) (⟨0, by omega, rfl, fun i _ _ h => absurd h (by omega), H⟩) ?_
 clear H
 rintro k u w ⟨j, hk, h5, hall, H⟩
 refine WP.know (t := 5) h5<|Y.qq<|Y.a rfl<|Y.sS rfl<|Y.E rfl<|Y.lt rfl<|Y.z ?_
 refine WP.cond rfl (fun hc4 => ?_) (fun hc4 => ?_)
 ·have hlt : j < a.length := by simpa using hc4
  obtain ⟨b1, o1, rfl, hx⟩ := ha j hlt
  obtain ⟨b2, o2, rfl, hy⟩ := hb j (by omega)
  refine Y.k<|Y.q<|WP.block<|Y.q<|WP.rstill mixed (by kernel_rfl) H ?_
  clear H; intro w hbw6 H
  refine Y.sS rfl<|Y.a rfl<|Y.I rfl<|Y.v (Y.c (H.ld0 (by assumption)) rfl) ?_
  refine Y.sS rfl<|Y.a rfl<|Y.I rfl<|Y.v (Y.c (H.ld0 (by assumption)) rfl) ?_
  refine Y.V rfl<|OPS.nil_s ?_
  refine WP.cond rfl (fun hc6 => ?_) (fun hc6 => ?_)
  ·refine Y.qr<|Y.aB rfl<|Y.z ?_
   refine WP.ret ⟨_, rfl, ?_⟩
   have hne : a[j] ≠ b[j]'(by omega) := by simpa using hc6
   have h : a ≠ b := by
    rintro rfl
    exact hne rfl
   exact ⟨by rw [decide_eq_false h]; rfl, H.below⟩
  have hne : a[j] = b[j]'(by omega) := by simpa using hc6
  refine Y.k<|Y.r<|Y.a rfl<|Y.P rfl<|Y.bz rfl ?_
  refine ⟨Y.ag, k - 1, by omega, j + 1, by omega, rfl, fun i h h2 hij => ?_, H⟩
  rcases Nat.lt_succ_iff_lt_or_eq.1 hij with h3 | rfl
  ·exact hall i h h2 h3
  ·exact hne
 refine WP.exit<|XB.hit<|Y.qr<|Y.aB rfl<|Y.z ?_
 refine WP.ret ⟨_, rfl, ?_⟩
 have hj : j = a.length := by simp at hc4; omega
 have h : a = b := List.ext_getElem hlen fun i h h2 => hall i h h2 (by omega)
 exact ⟨by rw [decide_eq_true h]; rfl, H.below⟩
theorem jdx (rs : List Rt) : (rtL rs).length = rs.length := by simp [rtL]
theorem jjn (P F P2 F2 : Option Addr) (rs rs2 : List Rt) (left left2 : List Int) (cp cf cp2 cf2 : Nat) (w0 : World)
  (hP : k8 2 jaT w0 P rs) (hI : ∀ r ∈ rs, k9 w0 r.nd.A r.nd.l) (hF : k9 w0 F left) (hP2 : k8 2 jaT w0 P2 rs2) (hI2 : ∀ r ∈ rs2, k9 w0 r.nd.A r.nd.l) (hF2 : k9 w0 F2 left2)
  (hl : rs.length ≤ 1000 ∧ left.length ≤ 1000 ∧ ∀ r ∈ rs, r.nd.l.length ≤ 1000) (hl2 : rs2.length ≤ 1000 ∧ left2.length ≤ 1000 ∧ ∀ r ∈ rs2, r.nd.l.length ≤ 1000) :
  Calls Tryz.prog 13 #[.agg #[.slice P rs.length cp, .slice F left.length cf], .agg #[.slice P2 rs2.length cp2, .slice F2 left2.length cf2]] w0 fun e w' => e = .returned (.bool (decide (rtL rs = rtL rs2 ∧ left = left2))) ∧ Below w0.heap.size w0 w' := by
 have H := SH.refl w0
 obtain ⟨hl1, hlf, hlr⟩ := hl
 obtain ⟨hm1, hmf, hmr⟩ := hl2
 refine Calls.ofWP Tryz.func13 rfl Tryz.results13 Tryz.ntmps13 rfl<|Y.qr<|Y.bx (cA rfl) H ?_
 clear H; intro g2 w H
 refine Y.bx (cA rfl) H ?_
 clear H; intro g3 w H
 refine Y.aB rfl<|Y.z<|Y.qq<|Y.W H 1 rfl<|Y.E rfl<|Y.W H 0 rfl<|Y.E rfl<|Y.V rfl<|Y.B rfl<|Y.gf rfl<|Y.yy H 1 rfl<|Y.gf rfl<|Y.yy H 0 rfl<|OPS.gcall0 (f := 35) (jjV F F2 left left2 cf cf2 w (hF.sh H) (hF2.sh H) hlf hmf) (fun _ _ h => h) rfl rfl rfl rfl rfl (fun hg => EvC.conv (EvC.func (z7 rfl)) (l2 (gvE hg rfl) (gvE hg rfl))) ?_
 intro w hbc; replace H := H.toBelow hbc
 refine Y.g rfl rfl (fun hg => Ev.not (gvE hg rfl))<|Y.po rfl<|Y.z ?_
 refine WP.cond rfl (fun hc1 => ?_) (fun hc1 => ?_)
 ·refine Y.qr<|Y.aB rfl<|Y.z ?_
  refine WP.ret ⟨_, rfl, ?_⟩
  have h : ¬ (rtL rs = rtL rs2 ∧ left = left2) := by
   rintro ⟨h1, h2⟩
   have h3 := congrArg List.length h1
   rw [jdx, jdx] at h3
   simp [h2, h3] at hc1
  exact ⟨by rw [decide_eq_false h]; rfl, H.below⟩
 have hg : rs.length = rs2.length ∧ left = left2 := by
  simp at hc1
  exact ⟨by omega, hc1.2⟩
 obtain ⟨hlen, hle⟩ := hg
 refine Y.k<|Y.qq<|Y.bz rfl<|WP.block<|WP.loop [4, 5, 21, 22, 23, 24, 25, 26, 27, 28, 29, 30, 31, 32, 33, 34, 35, 36, 37, 38, 39, 40, 41, 42, 43, 44, 45, 46, 47, 48, 49, 50, 51, 52, 53, 54, 55, 56] (fun k e w' => ∃ j : Nat, j + k = rs.length ∧ e 5 = I j ∧ (∀ i (h : i < rs.length) (h2 : i < rs2.length), i < j → rs[i].trk = rs2[i].trk ∧ rs[i].nd.l = rs2[i].nd.l) ∧ SH w0 [] w' [⟨g3, 34, [.slice P2 rs2.length cp2, .slice F2 left2.length cf2]⟩, ⟨g2, 34, [.slice P rs.length cp, .slice F left.length cf]⟩]) (rs.length) (⟨0, by omega, rfl, fun i _ _ h => absurd h (by omega), H⟩) ?_
 clear H
 rintro k u w ⟨j, hk, h5, hall, H⟩
 refine WP.know (t := 5) h5<|Y.qq<|Y.a rfl<|Y.W H 1 rfl<|Y.E rfl<|Y.lt rfl<|Y.z ?_
 refine WP.cond rfl (fun hc4 => ?_) (fun hc4 => ?_)
 ·have hlt : j < rs.length := by simpa using hc4
  have hlt2 : j < rs2.length := by omega
  obtain ⟨b1, o1, rfl, hx⟩ := hP j hlt
  obtain ⟨b2, o2, rfl, hy⟩ := hP2 j hlt2
  have hr1 := hI rs[j] (List.getElem_mem hlt)
  have hr2 := hI2 rs2[j] (List.getElem_mem hlt2)
  have hn1 := hlr rs[j] (List.getElem_mem hlt)
  have hn2 := hmr rs2[j] (List.getElem_mem hlt2)
  obtain ⟨q1, q2, _⟩ := hx
  obtain ⟨q3, q4, _⟩ := hy
  generalize hra : rs[j] = ra at *
  generalize hrb : rs2[j] = rb at *
  refine Y.k<|Y.q<|WP.block<|Y.q<|WP.rquiet mixed (by kernel_rfl) H ?_
  clear H; intro w hbw6 H
  refine Y.W H 1 rfl<|Y.a rfl<|Y.U rfl<|Y.F rfl<|Y.v (Y.c (H.ld0 (by assumption)) rfl) ?_
  refine Y.W H 0 rfl<|Y.a rfl<|Y.U rfl<|Y.F rfl<|Y.v (Y.c (H.ld0 (by assumption)) rfl) ?_
  refine Y.V rfl<|Y.B rfl<|Y.gf rfl<|Y.yy H 1 rfl<|Y.gm rfl<|Y.g rfl rfl (fun hg => Ev.indexAddr (x7 rfl) (j4 rfl) (gvE hg rfl) (gvE hg rfl) rfl (by omega))<|Y.g rfl rfl (fun hg => Ev.fieldAddr (jaf rfl) (gvE hg rfl))<|Y.g rfl rfl (fun hg => Ev.load1 (j6 rfl) (gvE hg rfl) (H.ld0 (by assumption))) ?_
  refine Y.gf rfl<|Y.yy H 0 rfl<|Y.gm rfl<|Y.g rfl rfl (fun hg => Ev.indexAddr (x7 rfl) (j4 rfl) (gvE hg rfl) (gvE hg rfl) rfl (by omega))<|Y.g rfl rfl (fun hg => Ev.fieldAddr (jaf rfl) (gvE hg rfl))<|Y.g rfl rfl (fun hg => Ev.load1 (j6 rfl) (gvE hg rfl) (H.ld0 (by assumption))) ?_
  refine OPS.gcallq2 (f := 35) (fun hg w2 hb2 => jjV ra.nd.A rb.nd.A ra.nd.l rb.nd.l ra.nd.cap rb.nd.cap w2 ((hr1.sh H).below hb2) ((hr2.sh H).below hb2) hn1 hn2) rfl rfl rfl rfl rfl (fun hg => EvC.conv (EvC.func (z7 rfl)) (l2 (gvE hg rfl) (gvE hg rfl))) ?_
  refine Y.g rfl rfl (fun hg => Ev.not (gvE hg rfl))<|Y.po rfl<|OPS.nilq H ?_
  clear H; intro w hbx6 H
  refine WP.cond rfl (fun hc6 => ?_) (fun hc6 => ?_)
  ·refine Y.qr<|Y.aB rfl<|Y.z ?_
   refine WP.ret ⟨_, rfl, ?_⟩
   have h : ¬ (rtL rs = rtL rs2 ∧ left = left2) := by
    rintro ⟨h1, _⟩
    have h3 : (rtL rs)[j]'(by rw [jdx]; exact hlt) = (rtL rs2)[j]'(by rw [jdx]; exact hlt2) := by simp only [h1]
    simp only [rtL, List.getElem_map, hra, hrb, Prod.mk.injEq] at h3
    simp [h3.1, h3.2] at hc6
   exact ⟨by rw [decide_eq_false h]; rfl, H.below⟩
  have hne : ra.trk = rb.trk ∧ ra.nd.l = rb.nd.l := by
   simp at hc6
   exact hc6
  refine Y.k<|Y.r<|Y.a rfl<|Y.P rfl<|Y.bz rfl ?_
  refine ⟨Y.ag, k - 1, by omega, j + 1, by omega, rfl, fun i h h2 hij => ?_, H⟩
  rcases Nat.lt_succ_iff_lt_or_eq.1 hij with h3 | rfl
  ·exact hall i h h2 h3
  ·rw [hra, hrb]; exact hne
 refine WP.exit<|XB.hit<|Y.qr<|Y.aB rfl<|Y.z ?_
 refine WP.ret ⟨_, rfl, ?_⟩
 have hj : j = rs.length := by simp at hc4; omega
 have h : rtL rs = rtL rs2 := List.ext_getElem (by rw [jdx, jdx]; exact hlen) fun i h h2 => by
  rw [jdx] at h h2
  have := hall i h h2 (by omega)
  simp only [rtL, List.getElem_map]
  rw [this.1, this.2]
 have hh : rtL rs = rtL rs2 ∧ left = left2 := ⟨h, hle⟩
 exact ⟨by rw [decide_eq_true hh]; rfl, H.below⟩
def jlj (a b c : Nat) : Bool := decide (c ≤ 9) && (decide (b ≤ 4) && decide (a ≤ 60))
theorem jl9 (n hd : Int) (A B C : Option Addr) (ll tl nl ca cb cc : Nat) (w0 : World) :
  Calls Tryz.prog 9 #[.agg #[I n, .slice A ll ca, .slice B tl cb, .slice C nl cc, I hd]] w0 fun e w' => e = .returned (.bool (jlj ll tl nl)) ∧ Below w0.heap.size w0 w' := by
 have H := SH.refl w0
 refine Calls.ofWP Tryz.func9 rfl Tryz.results9 Tryz.ntmps9 rfl<|Y.qr<|Y.bx (cA rfl) H ?_
 clear H; intro g1 w H
 refine Y.aB rfl<|Y.z<|Y.qr<|Y.W H 0 rfl<|Y.E rfl<|Y.v (Ev.leq rfl rfl)<|Y.B rfl<|Y.gf rfl<|Y.yy H 0 rfl<|Y.g rfl rfl (fun hg => Ev.len (x7 rfl) (gvE hg rfl))<|Y.g rfl rfl (fun hg => Ev.leq (gvE hg rfl) rfl)<|Y.pa rfl<|Y.B rfl<|Y.gf rfl<|Y.g rfl rfl (fun hg => Ev.fieldAddr (jaf rfl) (gvE hg rfl))<|Y.yy H 0 rfl<|Y.g rfl rfl (fun hg => Ev.len (x7 rfl) (gvE hg rfl))<|Y.g rfl rfl (fun hg => Ev.leq (gvE hg rfl) rfl)<|Y.pa rfl<|Y.aB rfl<|Y.z ?_
 refine WP.ret ⟨_, rfl, ?_⟩
 refine ⟨jkr rfl ?_, H.below⟩
 unfold jlj
 grind
def jcO (rs : List Rt) (fl : Nat) : Bool := decide (rs.length ≤ 6) && (decide (fl ≤ 10) && decide (∀ r ∈ rs, r.nd.l.length ≤ 10))
theorem jiS (P F : Option Addr) (rs : List Rt) (fl cp cf : Nat) (w0 : World) (hP : k8 2 jaT w0 P rs) :
  Calls Tryz.prog 14 #[.agg #[.slice P rs.length cp, .slice F fl cf]] w0 fun e w' => e = .returned (.bool (jcO rs fl)) ∧ Below w0.heap.size w0 w' := by
 have H := SH.refl w0
 refine Calls.ofWP Tryz.func14 rfl Tryz.results14 Tryz.ntmps14 rfl<|Y.qr<|Y.bx (cA rfl) H ?_
 clear H; intro g1 w H
 refine Y.aB rfl<|Y.z<|Y.qq<|Y.W H 0 rfl<|Y.E rfl<|Y.v (Ev.gtr rfl rfl)<|Y.B rfl<|Y.gf rfl<|Y.yy H 0 rfl<|Y.g rfl rfl (fun hg => Ev.len (x7 rfl) (gvE hg rfl))<|Y.g rfl rfl (fun hg => Ev.gtr (gvE hg rfl) rfl)<|Y.po rfl<|Y.z ?_
 refine WP.cond rfl (fun hc1 => ?_) (fun hc1 => ?_)
 ·refine Y.qr<|Y.aB rfl<|Y.z ?_
  refine WP.ret ⟨_, rfl, ?_⟩
  refine ⟨jkr rfl ?_, H.below⟩
  unfold jcO
  simp at hc1
  grind
 have hg : rs.length ≤ 6 ∧ fl ≤ 10 := by
  simp at hc1
  omega
 refine Y.k<|Y.qq<|Y.bz rfl<|WP.block<|WP.loop [2, 3, 14, 15, 16, 17, 18, 19, 20, 21, 22, 23, 24, 25, 26, 27, 28] (fun k e w' => ∃ j : Nat, j + k = rs.length ∧ e 3 = I j ∧ (∀ i (h : i < rs.length), i < j → rs[i].nd.l.length ≤ 10) ∧ SH w0 [] w' [⟨g1, 34, [.slice P rs.length cp, .slice F fl cf]⟩]) (rs.length) (⟨0, by omega, rfl, fun i _ h => absurd h (by omega), H⟩) ?_
 clear H
 rintro k u w ⟨j, hk, h3, hall, H⟩
 refine WP.know (t := 3) h3<|Y.qq<|Y.a rfl<|Y.W H 0 rfl<|Y.E rfl<|Y.lt rfl<|Y.z ?_
 refine WP.cond rfl (fun hc4 => ?_) (fun hc4 => ?_)
 ·have hlt : j < rs.length := by simpa using hc4
  obtain ⟨b1, o1, rfl, hx⟩ := hP j hlt
  obtain ⟨q1, q2, _⟩ := hx
  refine Y.k<|Y.q<|WP.block<|Y.qr<|Y.W H 0 rfl<|Y.a rfl<|Y.U rfl<|Y.F rfl<|Y.v (Y.c (H.ld0 (by assumption)) rfl) ?_
  refine Y.E rfl<|Y.v (Ev.gtr rfl rfl)<|Y.z ?_
  refine WP.cond rfl (fun hc6 => ?_) (fun hc6 => ?_)
  ·refine Y.qr<|Y.aB rfl<|Y.z ?_
   refine WP.ret ⟨_, rfl, ?_⟩
   have hne : ¬ rs[j].nd.l.length ≤ 10 := by simp at hc6; omega
   have h : jcO rs fl = false := by
    unfold jcO
    rw [decide_eq_false (p := ∀ r ∈ rs, r.nd.l.length ≤ 10) fun h => hne (h _ (List.getElem_mem hlt))]
    simp
   exact ⟨by rw [h]; rfl, H.below⟩
  have hne : rs[j].nd.l.length ≤ 10 := by simp at hc6; omega
  refine Y.k<|Y.r<|Y.a rfl<|Y.P rfl<|Y.bz rfl ?_
  refine ⟨Y.ag, k - 1, by omega, j + 1, by omega, rfl, fun i h hij => ?_, H⟩
  rcases Nat.lt_succ_iff_lt_or_eq.1 hij with h3 | rfl
  ·exact hall i h h3
  ·exact hne
 refine WP.exit<|XB.hit<|Y.qr<|Y.aB rfl<|Y.z ?_
 refine WP.ret ⟨_, rfl, ?_⟩
 have hj : j = rs.length := by simp at hc4; omega
 have h : jcO rs fl = true := by
  unfold jcO
  rw [decide_eq_true hg.1, decide_eq_true hg.2, decide_eq_true]
  ·rfl
  ·intro r hr
   obtain ⟨i, hi, rfl⟩ := List.mem_iff_getElem.1 hr
   exact hall i hi (by omega)
 exact ⟨by rw [h]; rfl, H.below⟩
def jiR (c : Int) (ga gb gc : Nat) : List Value := [I 3, .slice (some ⟨ga, 0, none⟩) 6 6, .slice (some ⟨gb, 0, none⟩) 1 1, .slice (some ⟨gc, 0, none⟩) 2 2, I 10]
theorem jc2 (c : Int) (w0 : World) : Calls Tryz.prog 24 #[I c] w0 fun e w' => ∃ ga gb gc : Nat, e = .returned (.agg (jiR c ga gb gc).toArray) ∧ SH w0 [] w' [⟨ga, 85, tL.flatMap jah⟩, ⟨gb, 81, (tT c).flatMap k5⟩, ⟨gc, 68, tN.flatMap j8⟩] := by
 have H := SH.refl w0
 refine Calls.ofWPc Tryz.func24 rfl Tryz.results24 Tryz.ntmps24 rfl<|Y.qr<|Y.al H rfl rfl ?_
 clear H; intro g2 w H
 refine Y.z<|Y.qr<|Y.v (Ev.build (jbi rfl rfl rfl))<|Y.v (Ev.build (jbi rfl rfl rfl))<|Y.v (Ev.build (jbi rfl rfl rfl))<|Y.v (Ev.build (jbi rfl rfl rfl))<|Y.v (Ev.build (jbi rfl rfl rfl))<|Y.v (Ev.build (jbi rfl rfl rfl))<|OPS.buildSlice rfl rfl rfl rfl (jdt rfl rfl rfl rfl rfl rfl) H ?_
 clear H; intro g10 w H
 refine Y.v (Ev.build (jiL rfl rfl))<|Y.al H rfl rfl ?_
 clear H; intro g3 w H
 refine Y.ss 0 H rfl (cA rfl) rfl ?_
 clear H; intro w H
 refine Y.z<|Y.qr<|Y.O H 0 rfl<|Y.a rfl<|Y.v (Ev.build (jl7 rfl))<|Y.v (Ev.build (ji4 rfl rfl))<|OPS.buildSlice rfl rfl rfl rfl (jjb rfl) H ?_
 clear H; intro g16 w H
 refine Y.v (Ev.build (jfR rfl rfl))<|Y.v (Ev.build (jfR rfl rfl))<|OPS.buildSlice rfl rfl rfl rfl (jg1 rfl rfl) H ?_
 clear H; intro g19 w H
 refine Y.v (Ev.build (jfu rfl rfl rfl rfl))<|Y.ss 4 H rfl (cA rfl) rfl ?_
 clear H; intro w H
 refine Y.z ?_
 refine WP.ret ⟨[_], ⟨(by exact x6 4 H rfl (j6 rfl) (j4 rfl) (by rfl) rfl), trivial⟩, ?_⟩
 exact ⟨g10, g16, g19, rfl, H.reidx [3, 1, 0] (by decide) rfl⟩
end Go.Proofs.YtgcokllbophkkaaGreat
namespace Go.Proofs.YtgcokllbophkkaaGreat
open Go Go.W Go.RowKit
theorem jgs {w0 w : World} {S : List Nat} {c : Int} {ga gb gc : Nat} (H : SH w0 S w [⟨ga, 85, tL.flatMap jah⟩, ⟨gb, 81, (tT c).flatMap k5⟩, ⟨gc, 68, tN.flatMap j8⟩]) : jaE w (some ⟨ga, 0, none⟩) (some ⟨gb, 0, none⟩) (some ⟨gc, 0, none⟩) tL (tT c) tN 2 :=
 ⟨jbF (enc := jah) (sz := 3) (l := tL) (fun _ => rfl) H 0 rfl, jbF (enc := k5) (sz := 4) (l := tT c) (fun _ => rfl) H 1 rfl, jbF (enc := j8) (sz := 2) (l := tN) (fun _ => rfl) H 2 rfl, by decide⟩
theorem jiK (ga gb gc : Nat) (w0 : World) (hN : jaE w0 (some ⟨ga, 0, none⟩) (some ⟨gb, 0, none⟩) (some ⟨gc, 0, none⟩) tL (tT 10) tN 2) : Calls Tryz.prog 11 #[.agg (jiR 10 ga gb gc).toArray] w0 fun e w' =>
  ∃ (r : Rt) (P F : Option Addr) (cp cf : Nat) (L : List Blk), e = .returned (.tuple #[.agg #[.slice P 1 cp, .slice F 0 cf], I 0]) ∧ (r.trk = 0 ∧ r.nd.l = [0, 1]) ∧ Reads L (fun w => jcs w P [r] ∧ k9 w F []) ∧ SH w0 [] w' L := by
 refine (jjP 3 10 _ _ _ tL (tT 10) tN 6 1 2 w0 hN).mono ?_
 rintro e w' ⟨er, rs, left, P, F, cp, cf, L, rfl, hA, _, hR, hS⟩
 obtain ⟨rfl, h2, rfl⟩ := tMk10 hA
 obtain ⟨r, rfl, h3⟩ : ∃ r, rs = [r] ∧ r.trk = 0 ∧ r.nd.l = [0, 1] := by
  unfold rtL at h2
  cases rs with
  | nil => cases h2
  | cons r rs =>
   cases rs with
   | nil => simp at h2; exact ⟨r, rfl, h2⟩
   | cons r' rs => simp at h2
 exact ⟨r, P, F, cp, cf, L, rfl, h3, hR, hS⟩
theorem jjs (ga gb gc : Nat) (w0 : World) (hN : jaE w0 (some ⟨ga, 0, none⟩) (some ⟨gb, 0, none⟩) (some ⟨gc, 0, none⟩) tL (tT 7) tN 2) : Calls Tryz.prog 11 #[.agg (jiR 7 ga gb gc).toArray] w0 fun e w' =>
  ∃ (P F : Option Addr) (cp cf : Nat) (L : List Blk), e = .returned (.tuple #[.agg #[.slice P 0 cp, .slice F 2 cf], I 0]) ∧ Reads L (fun w => jcs w P [] ∧ k9 w F [0, 1]) ∧ SH w0 [] w' L := by
 refine (jjP 3 10 _ _ _ tL (tT 7) tN 6 1 2 w0 hN).mono ?_
 rintro e w' ⟨er, rs, left, P, F, cp, cf, L, rfl, hA, _, hR, hS⟩
 obtain ⟨rfl, h2, rfl⟩ := tMk7 hA
 obtain rfl : rs = [] := by
  unfold rtL at h2
  exact List.map_eq_nil_iff.1 h2
 exact ⟨P, F, cp, cf, L, rfl, hR, hS⟩
section
variable (ga gb gc : Nat) (P F P2 F2 : Option Addr) (r : Rt) (cp cf cp2 cf2 : Nat) (w0 : World)
theorem townGap (hN : jaE w0 (some ⟨ga, 0, none⟩) (some ⟨gb, 0, none⟩) (some ⟨gc, 0, none⟩) tL (tT 10) tN 2) (hr : r.trk = 0 ∧ r.nd.l = [0, 1]) (hP : jcs w0 P [r]) (hF : k9 w0 F []) : Calls Tryz.prog 17 #[.agg (jiR 10 ga gb gc).toArray, .agg #[.slice P 1 cp, .slice F 0 cf]] w0 fun e w' =>
  e = .returned (.tuple #[I 155, I 0]) ∧ Below w0.heap.size w0 w' := by
 refine (jny 3 10 _ _ _ P F tL (tT 10) tN [r] [] 6 1 2 cp cf w0 hN hP hF (by decide) (by decide)).mono ?_
 rintro e w' ⟨x, rfl, hA, hb⟩
 rw [tGapV hr.1 hr.2 hA, tGap hr.1 hr.2]
 exact ⟨rfl, hb⟩
theorem jiP (hN : jaE w0 (some ⟨ga, 0, none⟩) (some ⟨gb, 0, none⟩) (some ⟨gc, 0, none⟩) tL (tT 10) tN 2) (hP : jcs w0 P [r]) (hF : k9 w0 F []) : Calls Tryz.prog 19 #[.agg (jiR 10 ga gb gc).toArray, .agg #[.slice P 1 cp, .slice F 0 cf], .agg #[.slice P 1 cp, .slice F 0 cf]] w0 fun e w' =>
  e = .returned (.bool false) ∧ Below w0.heap.size w0 w' := by
 refine (jks 3 10 _ _ _ P F P F tL (tT 10) tN [r] [r] [] [] 6 1 2 cp cf cp cf w0 hN hP hF (by decide) hP hF (by decide) (by decide)).mono ?_
 rintro e w' ⟨rfl, hb⟩
 rw [jmQ]
 exact ⟨rfl, hb⟩
theorem jjL (hN : jaE w0 (some ⟨ga, 0, none⟩) (some ⟨gb, 0, none⟩) (some ⟨gc, 0, none⟩) tL (tT 7) tN 2) (hP : jcs w0 P []) (hF : k9 w0 F [0, 1]) : Calls Tryz.prog 15 #[.agg (jiR 7 ga gb gc).toArray, .agg #[.slice P 0 cp, .slice F 2 cf]] w0 fun e w' =>
  e = .returned (.tuple #[I 13, I 0, I 0]) ∧ Below w0.heap.size w0 w' := by
 refine (jdT 3 10 _ _ _ P F tL (tT 7) tN [] [0, 1] 6 1 2 cp cf w0 hN hP hF (by decide) (by decide)).mono ?_
 rintro e w' ⟨rfl, hb⟩
 rw [tVal7.1, tVal7.2, tPl7]
 exact ⟨rfl, hb⟩
end
theorem jfK (w0 : World) : Calls Tryz.prog 10 #[] w0 fun e w' => e = .returned (.bool true) ∧ Below w0.heap.size w0 w' := by
 have H := SH.refl w0
 refine Calls.ofWP Tryz.func10 rfl Tryz.results10 Tryz.ntmps10 rfl<|Y.qr<|Y.aB rfl<|Y.z<|Y.qr<|Y.c2 11 rfl (jc2 10 w0) ?_
 rintro _ w ⟨ga, gb, gc, rfl, Hc⟩
 refine ⟨_, rfl, ?_⟩
 replace H := Hc
 clear Hc
 refine Y.c2 12 rfl (jiK ga gb gc w (jgs H)) ?_
 rintro _ w ⟨r, P, F, cp, cf, L1, rfl, hr, hR1, Hc⟩
 refine ⟨_, rfl, ?_⟩
 replace H := SH.call (L1 := []) (Lv := []) (H.drop Y.sn) Hc
 clear Hc
 simp only [List.nil_append] at H
 refine Y.T rfl<|Y.G rfl<|Y.G rfl<|Y.al H rfl rfl ?_
 clear H; intro g1 w H
 refine Y.ss 0 H rfl (cA rfl) rfl ?_
 clear H; intro w H
 refine Y.bz rfl<|Y.q ?_
 refine WP.rheldC [3, 4, 15, 16, 17, 18, 19, 20] (fun u w' => u 3 = I 155 ∧ u 4 = I 0 ∧ SH w0 [] w' (⟨g1, 34, [.slice P 1 cp, .slice F 0 cf]⟩ :: L1)) mixed H ?_ ?_
 ·clear H; intro w hbw2 H
  refine Y.t 1 H rfl rfl (fun w H => Y.o H 0 rfl rfl)<|Y.A1 0 rfl rfl<|Y.c2 16 rfl (jc2 10 _) ?_
  rintro _ w ⟨ga, gb, gc, rfl, Hc⟩
  refine ⟨_, rfl, ?_⟩
  have E := (SH.call (L1 := _) (Lv := []) (by rw [List.append_nil]; exact H) Hc).perm List.perm_append_comm
  clear Hc H
  have H := E.drop (L' := ⟨g1, 34, [.slice P 1 cp, .slice F 0 cf]⟩ :: L1) Y.sr
  refine Y.z <| ⟨(H), ?_⟩
  refine Y.A1 2 rfl rfl<|Y.c2 18 rfl (townGap ga gb gc P F r cp cf w (jgs (E.drop Y.sl)) hr (hR1.at H Y.sc).1 (hR1.at H Y.sc).2) ?_
  rintro _ w ⟨rfl, hb⟩
  refine ⟨_, rfl, ?_⟩
  replace H := H.toBelow hb
  clear hb E
  refine Y.z <| ⟨(H), ?_⟩
  refine Y.t 3 H rfl rfl (fun w H => Ev.mvT rfl)<|Y.t 4 H rfl rfl (fun w H => Ev.extract rfl rfl)<|Y.t 5 H rfl rfl (fun w H => Ev.extract rfl rfl)<|Y.t 6 H rfl rfl (fun w H => Ev.asI rfl)<|Y.t 7 H rfl rfl (fun w H => Ev.asI rfl)<|Y.dn ?_
  exact ⟨Y.ag, rfl, rfl, H⟩
 clear H
 rintro u w ⟨h3, h4, H⟩
 refine WP.know (t := 3) h3 (WP.know (t := 4) h4 ?_)
 refine Y.qr<|Y.c2 22 rfl (jc2 7 w) ?_
 rintro _ w ⟨ga, gb, gc, rfl, Hc⟩
 refine ⟨_, rfl, ?_⟩
 replace H := (SH.call (L1 := _) (Lv := []) (by rw [List.append_nil]; exact H) Hc).perm List.perm_append_comm
 clear Hc
 refine Y.c2 23 rfl (jjs ga gb gc w (jgs (H.drop Y.sl))) ?_
 rintro _ w ⟨P2, F2, cp2, cf2, L2, rfl, hR2, Hc⟩
 refine ⟨_, rfl, ?_⟩
 replace H := SH.call (L1 := ⟨g1, 34, [.slice P 1 cp, .slice F 0 cf]⟩ :: L1) (Lv := []) (by rw [List.append_nil]; exact H.drop Y.sr) Hc
 clear Hc
 simp only [List.cons_append] at H
 refine Y.T rfl<|Y.G rfl<|Y.G rfl<|Y.al H rfl rfl ?_
 clear H; intro g5 w H
 refine Y.ss 0 H rfl (cA rfl) rfl ?_
 clear H; intro w H
 refine Y.bz rfl<|Y.q ?_
 refine WP.rheldC [7, 8, 9, 26, 27, 28, 29, 30, 31, 32] (fun u w' => u 7 = I 13 ∧ u 8 = I 0 ∧ u 9 = I 0 ∧ SH w0 [] w' (⟨g5, 34, [.slice P2 0 cp2, .slice F2 2 cf2]⟩ :: ⟨g1, 34, [.slice P 1 cp, .slice F 0 cf]⟩ :: (L1 ++ L2))) mixed H ?_ ?_
 ·clear H; intro w hbw4 H
  refine Y.t 1 H rfl rfl (fun w H => Y.o H 0 rfl rfl)<|Y.A1 0 rfl rfl<|Y.c2 27 rfl (jc2 7 _) ?_
  rintro _ w ⟨ga, gb, gc, rfl, Hc⟩
  refine ⟨_, rfl, ?_⟩
  have E := (SH.call (L1 := _) (Lv := []) (by rw [List.append_nil]; exact H) Hc).perm List.perm_append_comm
  clear Hc H
  have H := E.drop (L' := ⟨g5, 34, [.slice P2 0 cp2, .slice F2 2 cf2]⟩ :: ⟨g1, 34, [.slice P 1 cp, .slice F 0 cf]⟩ :: (L1 ++ L2)) Y.sr
  refine Y.z <| ⟨(H), ?_⟩
  refine Y.A1 2 rfl rfl<|Y.c2 29 rfl (jjL ga gb gc P2 F2 cp2 cf2 w (jgs (E.drop Y.sl)) (hR2.at H Sb.out).1 (hR2.at H Sb.out).2) ?_
  rintro _ w ⟨rfl, hb⟩
  refine ⟨_, rfl, ?_⟩
  replace H := H.toBelow hb
  clear hb E
  refine Y.z <| ⟨(H), ?_⟩
  refine Y.t 3 H rfl rfl (fun w H => Ev.mvT rfl)<|Y.t 4 H rfl rfl (fun w H => Ev.extract rfl rfl)<|Y.t 5 H rfl rfl (fun w H => Ev.extract rfl rfl)<|Y.t 6 H rfl rfl (fun w H => Ev.extract rfl rfl)<|Y.t 7 H rfl rfl (fun w H => Ev.asI rfl)<|Y.t 8 H rfl rfl (fun w H => Ev.asI rfl)<|Y.t 9 H rfl rfl (fun w H => Ev.asI rfl)<|Y.dn ?_
  exact ⟨Y.ag, rfl, rfl, rfl, H⟩
 clear H
 rintro u w ⟨h7, h8, h9, H⟩
 refine WP.know (t := 7) h7 (WP.know (t := 8) h8 (WP.know (t := 9) h9 ?_))
 refine Y.qq<|Y.a rfl<|Y.V rfl<|Y.B rfl<|Y.gm rfl<|Y.g rfl rfl (fun hg => Ev.neq (gvE hg rfl) rfl)<|Y.po rfl<|Y.B rfl<|Y.gm rfl<|Y.g rfl rfl (fun hg => Ev.neq (gvE hg rfl) rfl)<|Y.po rfl<|Y.B rfl<|Y.gm rfl<|Y.g rfl rfl (fun hg => Ev.neq (gvE hg rfl) rfl)<|Y.po rfl<|Y.z ?_
 refine WP.cond rfl (fun hc5 => ?_) (fun hc5 => ?_)
 ·refine Y.qr<|Y.aB rfl<|Y.z ?_
  refine WP.ret ⟨_, rfl, ?_⟩
  exact absurd hc5 (by simp)
 refine Y.k<|Y.q ?_
 refine WP.rheldC [0, 47, 48, 49, 50, 51, 52, 53, 54, 55, 56, 57, 58, 59, 60, 61, 62, 63, 64, 65, 66, 67, 68, 69, 70, 71, 72, 73, 74, 75, 76, 77] (fun u w' => u 0 = .bool true ∧ SH w0 [] w' (⟨g5, 34, [.slice P2 0 cp2, .slice F2 2 cf2]⟩ :: ⟨g1, 34, [.slice P 1 cp, .slice F 0 cf]⟩ :: (L1 ++ L2))) mixed H ?_ ?_
 ·clear H; intro w hbw7 H
  refine Y.t 0 H rfl rfl (fun w H => Y.o H 1 rfl rfl)<|Y.A1 1 rfl rfl<|OPS.buildSlice rfl rfl rfl rfl (jeF rfl rfl) H ?_
  clear H; intro g48 w E1
  have H := E1.drop Y.sc
  refine Y.z <| ⟨(H), ?_⟩
  refine Y.t 2 H rfl rfl (fun w H => Ev.build (jmi rfl))<|Y.A1 3 rfl rfl<|OPS.buildSlice rfl rfl rfl rfl (jfP rfl) E1 ?_
  clear H; intro g50 w E2; clear E1
  have H := (E2.drop Y.sc).drop Y.sc
  refine Y.z <| ⟨(H), ?_⟩
  refine Y.t 4 H rfl rfl (fun w H => Ev.build (jlS rfl))<|Y.A1 5 rfl rfl<|Y.c2 52 rfl (jjn P F (some ⟨g50, 0, none⟩) none [r] [⟨0, ⟨some ⟨g48, 0, none⟩, 2, [0, 1]⟩⟩] [] [] cp cf 1 0 w (hR1.at H Sb.out).1.rows (hR1.at H Sb.out).1.ints (hR1.at H Sb.out).2 (jbF (enc := jaT) (sz := 2) (l := [⟨0, ⟨some ⟨g48, 0, none⟩, 2, [0, 1]⟩⟩]) jeR E2 0 rfl) (fun x hx => by simp at hx; subst hx; exact y9 (l := [0, 1]) E2 1 rfl) jaa.nil (by simp [hr.2]) (by simp)) ?_
  rintro _ w ⟨rfl, hb⟩
  rw [show decide (rtL [r] = rtL [⟨0, ⟨some ⟨g48, 0, none⟩, 2, [0, 1]⟩⟩] ∧ ([] : List Int) = []) = true by simp [rtL, hr.1, hr.2]]
  refine ⟨_, rfl, ?_⟩
  replace H := H.toBelow hb
  clear hb E2
  refine Y.z <| ⟨(H), ?_⟩
  refine Y.t 6 H rfl rfl (fun w H => Ev.mvB rfl)<|OPH.takeY 7 rfl rfl rfl rfl rfl rfl (by kernel_rfl) (by kernel_rfl) (by kernel_rfl) rfl (H) (fun w H => Ev.mvI rfl) ?_
  refine OPH.takeY 8 rfl rfl rfl rfl rfl rfl (by kernel_rfl) (by kernel_rfl) (by kernel_rfl) rfl (H) (fun w H => Ev.eql rfl rfl) ?_
  refine Y.t 9 H rfl rfl (fun w H => Ev.pick (b := true) rfl)<|Y.t 10 H rfl rfl (fun w H => Ev.mvB rfl)<|OPH.takeY 11 rfl rfl rfl rfl rfl rfl (by kernel_rfl) (by kernel_rfl) (by kernel_rfl) rfl (H) (fun w H => (Ev.loadO 0 H rfl (j6 rfl) (j4 rfl) rfl rfl)) ?_
  refine Y.A1 12 rfl rfl<|OPS.gyes rfl rfl rfl rfl<|OPS.buildSlice rfl rfl rfl rfl (jeF rfl rfl) H ?_
  clear H; intro g59 w E1
  have H := E1.drop Y.sc
  refine Y.z <| ⟨(H), ?_⟩
  refine OPH.takeY 13 rfl rfl rfl rfl rfl rfl (by kernel_rfl) (by kernel_rfl) (by kernel_rfl) rfl (H) (fun w H => Ev.build (jlR rfl)) ?_
  refine Y.A1 14 rfl rfl<|OPS.gyes rfl rfl rfl rfl<|Y.c2 61 rfl (jjn P2 F2 none (some ⟨g59, 0, none⟩) [] [] [0, 1] [0, 1] cp2 cf2 0 2 w (hR2.at H Sb.out).1.rows (hR2.at H Sb.out).1.ints (hR2.at H Sb.out).2 k8.nil (by simp) (y9 (l := [0, 1]) E1 0 rfl) (by simp) (by simp)) ?_
  rintro _ w ⟨rfl, hb⟩
  rw [show decide (rtL [] = rtL [] ∧ ([0, 1] : List Int) = [0, 1]) = true by simp]
  refine ⟨_, rfl, ?_⟩
  replace H := H.toBelow hb
  clear hb E1
  refine Y.z <| ⟨(H), ?_⟩
  refine Y.t 15 H rfl rfl (fun w H => Ev.pick (b := true) rfl)<|Y.t 16 H rfl rfl (fun w H => Ev.mvB rfl)<|OPH.takeY 17 rfl rfl rfl rfl rfl rfl (by kernel_rfl) (by kernel_rfl) (by kernel_rfl) rfl (H) (fun w H => Ev.mvI rfl) ?_
  refine OPH.takeY 18 rfl rfl rfl rfl rfl rfl (by kernel_rfl) (by kernel_rfl) (by kernel_rfl) rfl (H) (fun w H => Ev.eql rfl rfl) ?_
  refine Y.t 19 H rfl rfl (fun w H => Ev.pick (b := true) rfl)<|Y.t 20 H rfl rfl (fun w H => Ev.mvB rfl)<|OPH.takeY 21 rfl rfl rfl rfl rfl rfl (by kernel_rfl) (by kernel_rfl) (by kernel_rfl) rfl (H) (fun w H => Ev.mvI rfl) ?_
  refine OPH.takeY 22 rfl rfl rfl rfl rfl rfl (by kernel_rfl) (by kernel_rfl) (by kernel_rfl) rfl (H) (fun w H => Ev.eql rfl rfl) ?_
  refine Y.t 23 H rfl rfl (fun w H => Ev.pick (b := true) rfl)<|Y.t 24 H rfl rfl (fun w H => Ev.mvB rfl)<|OPH.takeY 26 rfl rfl rfl rfl rfl rfl (by kernel_rfl) (by kernel_rfl) (by kernel_rfl) rfl (H) (fun w H => (Ev.loadO 1 H rfl (j6 rfl) (j4 rfl) rfl rfl)) ?_
  refine OPH.takeY 27 rfl rfl rfl rfl rfl rfl (by kernel_rfl) (by kernel_rfl) (by kernel_rfl) rfl (H) (fun w H => (Ev.loadO 1 H rfl (j6 rfl) (j4 rfl) rfl rfl)) ?_
  refine Y.A1 25 rfl rfl<|OPS.gyes rfl rfl rfl rfl<|Y.c2 72 rfl (jc2 10 _) ?_
  rintro _ w ⟨ga, gb, gc, rfl, Hc⟩
  refine ⟨_, rfl, ?_⟩
  have E := (SH.call (L1 := _) (Lv := []) (by rw [List.append_nil]; exact H) Hc).perm List.perm_append_comm
  clear Hc H
  have H := E.drop (L' := ⟨g5, 34, [.slice P2 0 cp2, .slice F2 2 cf2]⟩ :: ⟨g1, 34, [.slice P 1 cp, .slice F 0 cf]⟩ :: (L1 ++ L2)) Y.sr
  refine Y.z <| ⟨(H), ?_⟩
  refine Y.A1 28 rfl rfl<|OPS.gyes rfl rfl rfl rfl<|Y.c2 75 rfl (jiP ga gb gc P F r cp cf w (jgs (E.drop Y.sl)) (hR1.at H Sb.out).1 (hR1.at H Sb.out).2) ?_
  rintro _ w ⟨rfl, hb⟩
  refine ⟨_, rfl, ?_⟩
  replace H := H.toBelow hb
  clear hb E
  refine Y.z <| ⟨(H), ?_⟩
  refine OPH.takeY 29 rfl rfl rfl rfl rfl rfl (by kernel_rfl) (by kernel_rfl) (by kernel_rfl) rfl (H) (fun w H => Ev.not rfl) ?_
  refine Y.t 30 H rfl rfl (fun w H => Ev.pick (b := true) rfl)<|Y.t 31 H rfl rfl (fun w H => Ev.asB rfl)<|Y.dn ?_
  exact ⟨Y.ag, rfl, H⟩
 clear H
 rintro u w ⟨h0, H⟩
 refine WP.know (t := 0) h0 ?_
 refine WP.ret ⟨_, rfl, ?_⟩
 exact ⟨rfl, H.below⟩
end Go.Proofs.YtgcokllbophkkaaGreat
namespace Go.Proofs.YtgcokllbophkkaaGreat
open Go Go.W Go.RowKit
theorem jin (n hd : Int) (A B C P F : Option Addr) (l : List Edg) (ts : List q9) (ns : List z6) (rs : List Rt) (left : List Int) (ca cb cc cp cf : Nat) (w0 : World) (hN : jaE w0 A B C l ts ns cc)
  (hP : jcs w0 P rs) (hF : k9 w0 F left) (hfl : left.length ≤ 1000) (hnl : ns.length ≤ 1000) :
  Calls Tryz.prog 16 #[.agg #[I n, .slice A l.length ca, .slice B ts.length cb, .slice C ns.length cc, I hd], .agg #[.slice P rs.length cp, .slice F left.length cf]] w0 fun e w' =>
   e = .returned (.tuple #[I (jlC n l ts ns hd rs left), I (jiD n l ts ns hd rs left), I (jab n l ts ns hd rs left)]) ∧ Below w0.heap.size w0 w' := by
 have H := SH.refl w0
 have hfew := hP.few
 refine Calls.ofWP Tryz.func16 rfl Tryz.results16 Tryz.ntmps16 rfl<|Y.qr<|Y.bx (cA rfl) H ?_
 clear H; intro g2 w H
 refine Y.bx (cA rfl) H ?_
 clear H; intro g3 w H
 refine Y.b rfl<|Y.b rfl<|Y.bz rfl<|Y.qq<|Y.O H 1 rfl<|Y.O H 0 rfl<|Y.cl 17 rfl (jhN n hd A B C P F l ts ns rs left ca cb cc cp cf w (hN.sh H).l (hN.sh H).t (hN.sh H).n (hP.sh H) (hF.sh H) hfl hnl) H ?_
 clear H; intro w H
 refine Y.bz rfl<|Y.qr<|Y.a rfl<|Y.V rfl<|Y.z ?_
 refine WP.cond rfl (fun hc2 => ?_) (fun hc2 => ?_)
 ·refine Y.qr<|Y.a rfl<|Y.b rfl<|Y.b rfl<|Y.bz rfl ?_
  refine WP.ret ⟨_, rfl, ?_⟩
  have h : jab n l ts ns hd rs left ≠ 0 := by simpa using hc2
  exact ⟨by rw [jlC, jiD, if_neg h, if_neg h]; rfl, H.below⟩
 have h0 : jab n l ts ns hd rs left = 0 := by simpa using hc2
 have hK := jdK h0
 have hm := hK.moves
 rw [jlC, jiD, if_pos h0, if_pos h0, h0]
 refine Y.k<|Y.qr<|Y.b rfl<|Y.bz rfl<|Y.qq<|Y.bz rfl<|WP.block<|WP.loop [8, 10, 11, 21, 22, 23, 24, 25, 26, 27, 28, 29, 30, 31, 32, 33, 34, 35, 36, 37, 38, 39, 40, 41, 42, 43] (fun k e w' => ∃ j : Nat, j + k = left.length ∧ e 10 = I j ∧ e 8 = I (mvL ns (left.take j)) ∧ SH w0 [] w' [⟨g3, 34, [.slice P rs.length cp, .slice F left.length cf]⟩, ⟨g2, 28, [I n, .slice A l.length ca, .slice B ts.length cb, .slice C ns.length cc, I hd]⟩]) (left.length) (⟨0, by omega, rfl, rfl, H⟩) ?_
 clear H
 rintro k u w ⟨j, hk, h10, h8, H⟩
 refine WP.know (t := 10) h10 (WP.know (t := 8) h8 ?_)
 refine Y.qq<|Y.a rfl<|Y.W H 0 rfl<|Y.E rfl<|Y.lt rfl<|Y.z ?_
 refine WP.cond rfl (fun hc6 => ?_) (fun hc6 => ?_)
 ·have hlt : j < left.length := by simpa using hc6
  obtain ⟨br, orr, rfl, hx⟩ := hF j hlt
  have hir := hK.left left[j] (List.getElem_mem hlt)
  obtain ⟨i, hi⟩ := Int.eq_ofNat_of_zero_le hir.1
  rw [hi] at hx
  have hil : i < ns.length := by omega
  obtain ⟨bn, on, rfl, hy⟩ := hN.n i hil
  have hmv := hm ns[i] (List.getElem_mem hil)
  have hbd := jh9 hm (left.take j)
  have htl : (left.take j).length = j := by rw [List.length_take]; omega
  have hsn := jfV ns (left.take j) left[j]
  rw [← List.take_succ_eq_append_getElem hlt, hi, jcY hil] at hsn
  generalize ns[i] = x at *
  refine Y.k<|Y.q<|WP.block<|Y.q<|WP.rstill mixed (by kernel_rfl) H ?_
  clear H; intro w hbw8 H
  obtain ⟨q1, q2, _⟩ := k7 H hy
  refine Y.W H 1 rfl<|Y.W H 0 rfl<|Y.a rfl<|Y.I rfl<|Y.v (Y.c (H.ld0 (by assumption)) rfl) ?_
  refine Y.U rfl<|Y.F rfl<|Y.v (Y.c (by assumption) rfl) ?_
  refine Y.b rfl<|OPS.nil_s<|Y.r<|Y.a rfl<|Y.a rfl<|Y.a rfl<|Y.v (Ev.neg rfl (by unfold fits; omega))<|Y.v (Ev.max rfl rfl)<|Y.P rfl<|Y.bz rfl<|Y.r<|Y.a rfl<|Y.P rfl<|Y.bz rfl ?_
  exact ⟨Y.ag, k - 1, by omega, j + 1, by omega, rfl, (by rw [hsn]; rfl), H⟩
 have hj : j = left.length := by simp at hc6; omega
 rw [hj, List.take_length]
 refine WP.exit<|XB.hit<|Y.qq<|Y.bz rfl<|WP.block<|WP.loop [9, 12, 13, 14, 44, 45, 46, 47, 48, 49, 50, 51, 52, 53, 54, 55, 56, 57, 58, 59, 60, 61, 62, 63] (fun k e w' => ∃ j : Nat, j + k = rs.length ∧ e 12 = I j ∧ e 9 = I (jfp n l ts ns hd (rs.take j)) ∧ (0 ≤ jfp n l ts ns hd (rs.take j) ∧ jfp n l ts ns hd (rs.take j) ≤ 2000000 * j) ∧ SH w0 [] w' [⟨g3, 34, [.slice P rs.length cp, .slice F left.length cf]⟩, ⟨g2, 28, [I n, .slice A l.length ca, .slice B ts.length cb, .slice C ns.length cc, I hd]⟩]) (rs.length) (⟨0, by omega, rfl, rfl, by simp [jfp], H⟩) ?_
 clear H
 rintro k2 u2 w ⟨j2, hk2, h12, h9, hbd2, H⟩
 refine WP.know (t := 12) h12 (WP.know (t := 9) h9 ?_)
 refine Y.qq<|Y.a rfl<|Y.W H 0 rfl<|Y.E rfl<|Y.lt rfl<|Y.z ?_
 refine WP.cond rfl (fun hc11 => ?_) (fun hc11 => ?_)
 ·have hlt2 : j2 < rs.length := by simpa using hc11
  obtain ⟨b, o, rfl, hc⟩ := hP.rows j2 hlt2
  have hr := hP.ints rs[j2] (List.getElem_mem hlt2)
  have hrl := hP.len rs[j2] (List.getElem_mem hlt2)
  have hrc := hP.cap rs[j2] (List.getElem_mem hlt2)
  have hE := hK.walks j2 hlt2
  have hob := jhm hE
  refine Y.k<|Y.q<|WP.block<|Y.q ?_
  refine WP.rheldC [13, 14, 51, 52, 53, 54, 55, 56, 57, 58, 59, 60] (fun u w' => u 13 = I (jf3 n l ts ns hd rs[j2].trk rs[j2].nd.l) ∧ SH w0 [] w' [⟨g3, 34, [.slice (some ⟨b, o, none⟩) rs.length cp, .slice F left.length cf]⟩, ⟨g2, 28, [I n, .slice A l.length ca, .slice B ts.length cb, .slice C ns.length cc, I hd]⟩]) mixed H ?_ ?_
  ·clear H; intro w hbw13 H
   refine Y.t 0 H rfl rfl (fun w H => Y.o H 1 rfl rfl)<|Y.tf 1 H rfl<|Y.tl 2 H 0 rfl<|Y.t 3 H rfl rfl (fun w H => Y.m rfl)<|Y.t 4 H rfl rfl (fun w H => Y.X rfl rfl rfl rfl rfl)<|Y.t 5 H rfl rfl (fun w H => Ev.loadN (jaT rs[j2]) (j6 rfl) (j4 rfl) rfl (k7 H hc))<|Y.A1 6 rfl rfl<|Y.c2 58 rfl (jiV n hd rs[j2].trk A B C rs[j2].nd.A l ts ns rs[j2].nd.l ca cb cc rs[j2].nd.cap _ (hN.sh H).l (hN.sh H).t (hN.sh H).n (hr.sh H) (by unfold maxLen; omega)) ?_
   rintro _ w ⟨rfl, hb⟩
   refine ⟨_, rfl, ?_⟩
   replace H := H.toBelow hb
   clear hb
   refine Y.z <| ⟨(H), ?_⟩
   refine Y.t 7 H rfl rfl (fun w H => Ev.mvT rfl)<|Y.t 8 H rfl rfl (fun w H => Ev.extract rfl rfl)<|Y.t 9 H rfl rfl (fun w H => Ev.extract rfl rfl)<|Y.t 10 H rfl rfl (fun w H => Ev.asI rfl)<|Y.t 11 H rfl rfl (fun w H => Ev.asI rfl)<|Y.dn ?_
   exact ⟨Y.ag, rfl, H⟩
  clear H
  rintro u w ⟨h13, H⟩
  refine WP.know (t := 13) h13<|Y.r<|Y.a rfl<|Y.a rfl<|Y.P rfl<|Y.bz rfl<|Y.r<|Y.a rfl<|Y.P rfl<|Y.bz rfl ?_
  exact ⟨Y.ag, k2 - 1, by omega, j2 + 1, by omega, rfl, by rw [jdJ hlt2]; rfl, by rw [jdJ hlt2]; omega, H⟩
 have hj2 : j2 = rs.length := by simp at hc11; omega
 rw [hj2, List.take_length]
 refine WP.exit<|XB.hit<|Y.qr<|Y.a rfl<|Y.a rfl<|Y.b rfl<|Y.b rfl<|Y.bz rfl ?_
 refine WP.ret ⟨_, rfl, ?_⟩
 exact ⟨rfl, H.below⟩
end Go.Proofs.YtgcokllbophkkaaGreat
namespace Go.Proofs.YtgcokllbophkkaaGreat
open Go Go.W Go.RowKit
structure jnk (n : Int) (l : List Edg) (ts : List q9) (ns : List z6) (hd : Int) (rs : List Rt) (left : List Int) (x : Int) : Prop where
 bad : jfA n l ts ns hd rs left ≠ 0 → x = 0
 good : jfA n l ts ns hd rs left = 0 → jav n l ts ns hd = 0 ∧ ∃ (s b : Int), jjN n l ts ns hd s b ∧ x = jfp n l ts ns hd rs - s
theorem jmJ {n hd x y : Int} {l : List Edg} {ts : List q9} {ns : List z6} {rs : List Rt} {left : List Int} (h : jk1 n l ts ns hd rs left x) (h' : jnk n l ts ns hd rs left y) : x = y := by
 by_cases he : jfA n l ts ns hd rs left = 0
 ·obtain ⟨_, _, h0, s, b, us, vs, hR, rfl⟩ := h.good he
  obtain ⟨_, s2, b2, hR2, rfl⟩ := h'.good he
  obtain ⟨m, T, hm, hK, hS, e1, _, _⟩ := hR.good h0
  subst hm
  obtain ⟨k1, _⟩ := hR2.good h0
  rw [e1, k1 us vs T (by simpa using hS)]
 ·rw [h.bad he, h'.bad he]
theorem r45Gap (n hd : Int) (A B C P F : Option Addr) (l : List Edg) (ts : List q9) (ns : List z6) (rs : List Rt) (left : List Int) (ca cb cc cp cf : Nat) (w0 : World) (hN : jaE w0 A B C l ts ns cc)
  (hP : jcs w0 P rs) (hF : k9 w0 F left) (hfl : left.length ≤ 1000) (hnl : ns.length ≤ 1000) (hR : jfA n l ts ns hd rs left = 0 → ∃ s b us vs, jeq n l ts ns hd s b us vs) :
  Calls Tryz.prog 18 #[.agg #[I n, .slice A l.length ca, .slice B ts.length cb, .slice C ns.length cc, I hd], .agg #[.slice P rs.length cp, .slice F left.length cf]] w0 fun e w' =>
   ∃ x, e = .returned (.tuple #[I x, I (jfA n l ts ns hd rs left)]) ∧ jnk n l ts ns hd rs left x ∧ Below w0.heap.size w0 w' := by
 have H := SH.refl w0
 have hfew := hP.few
 refine Calls.ofWP Tryz.func18 rfl Tryz.results18 Tryz.ntmps18 rfl<|Y.qr<|Y.bx (cA rfl) H ?_
 clear H; intro g2 w H
 refine Y.bx (cA rfl) H ?_
 clear H; intro g3 w H
 refine Y.b rfl<|Y.bz rfl<|Y.qr<|Y.O H 1 rfl<|Y.O H 0 rfl<|Y.cl 13 rfl (jin n hd A B C P F l ts ns rs left ca cb cc cp cf w (hN.sh H) (hP.sh H) (hF.sh H) hfl hnl) H ?_
 clear H; intro w H
 refine Y.T rfl<|Y.G rfl<|Y.G rfl<|Y.G rfl<|Y.b rfl<|Y.b rfl<|Y.bz rfl<|Y.qq<|Y.a rfl<|Y.V rfl<|Y.z ?_
 refine WP.cond rfl (fun hc2 => ?_) (fun hc2 => ?_)
 ·refine Y.qr<|Y.a rfl<|Y.b rfl<|Y.bz rfl ?_
  refine WP.ret ⟨_, rfl, ?_⟩
  have h : jab n l ts ns hd rs left ≠ 0 := by simpa using hc2
  have hg : jfA n l ts ns hd rs left = jab n l ts ns hd rs left := if_pos h
  exact ⟨0, by rw [hg]; rfl, ⟨fun _ => rfl, fun h2 => absurd (hg ▸ h2) h⟩, H.below⟩
 have h0 : jab n l ts ns hd rs left = 0 := by simpa using hc2
 have hK := jdK h0
 have hd0 := jhG rs hK.walks
 refine Y.k<|Y.qq<|Y.W H 0 rfl<|Y.E rfl<|Y.v (Ev.gtr rfl rfl)<|Y.z ?_
 refine WP.cond rfl (fun hc4 => ?_) (fun hc4 => ?_)
 ·refine Y.qr<|Y.b rfl<|Y.bz rfl ?_
  refine WP.ret ⟨_, rfl, ?_⟩
  have h : left ≠ [] := by
   rintro rfl
   simp at hc4
  have hg : jfA n l ts ns hd rs left = 26 := by rw [jfA, if_neg (by simp [h0]), if_pos h]
  exact ⟨0, by rw [hg]; rfl, ⟨fun _ => rfl, fun h2 => absurd (hg ▸ h2) (by decide)⟩, H.below⟩
 have h1 : left = [] := by
  cases left with
  | nil => rfl
  | cons a t => simp at hc4
 subst h1
 have hg : jfA n l ts ns hd rs [] = jav n l ts ns hd := by rw [jfA, if_neg (by simp [h0]), if_neg (by simp)]
 refine Y.k<|Y.qr<|Y.O H 1 rfl<|Y.c2 26 rfl (r44Find n hd A B C l ts ns ca cb cc w (hN.sh H)) ?_
 rintro _ w ⟨s, b, AU, AV, nu, cu, nv, cv, rfl, hR2, hb⟩
 refine ⟨_, rfl, ?_⟩
 replace H := H.toBelow hb
 clear hb
 refine Y.T rfl<|Y.G rfl<|Y.G rfl<|Y.al H rfl rfl ?_
 clear H; intro g9 w H
 refine Y.ss 0 H rfl (cA rfl) rfl ?_
 clear H; intro w H
 refine Y.bz rfl<|Y.qq<|Y.a rfl<|Y.V rfl<|Y.z ?_
 refine WP.cond rfl (fun hc7 => ?_) (fun hc7 => ?_)
 ·refine Y.qr<|Y.a rfl<|Y.b rfl<|Y.bz rfl ?_
  refine WP.ret ⟨_, rfl, ?_⟩
  have h2 : jav n l ts ns hd ≠ 0 := by simpa using hc7
  exact ⟨0, by rw [hg]; rfl, ⟨fun _ => rfl, fun h3 => absurd (hg ▸ h3) h2⟩, H.below⟩
 have h2 : jav n l ts ns hd = 0 := by simpa using hc7
 have hsb : 0 ≤ s ∧ s ≤ 1125899906842624 := by
  obtain ⟨s', b', us', vs', hR⟩ := hR (hg.trans h2)
  have h3 := hR.secs
  obtain ⟨m, T, hm, hK, hS, e1, _, _⟩ := hR.good h2
  subst hm
  rw [(hR2.good h2).1 us' vs' T (by simpa using hS), ← e1]
  exact h3
 have hvd : jiD n l ts ns hd rs [] = jfp n l ts ns hd rs := if_pos h0
 unfold jcN at H
 refine Y.k<|Y.qr<|Y.a rfl<|Y.W H 0 rfl<|Y.Q rfl<|Y.b rfl<|Y.bz rfl ?_
 refine WP.ret ⟨_, rfl, ?_⟩
 exact ⟨jiD n l ts ns hd rs [] - s, by rw [hg, h2]; rfl, ⟨fun h3 => absurd (hg.trans h2) h3, fun _ => ⟨h2, s, b, hR2, by rw [hvd]⟩⟩, H.below⟩
end Go.Proofs.YtgcokllbophkkaaGreat
namespace Go.Proofs.YtgcokllbophkkaaGreat
open Go Go.W Go.RowKit
theorem jiz.small {w : World} {A : Option Addr} {rs : List Rt} {fl : Nat} (h : jiz w A rs) (hs : jcO rs fl = true) : jcs w A rs ∧ rs.length ≤ 6 ∧ fl ≤ 10 := by
 unfold jcO at hs
 simp only [Bool.and_eq_true, decide_eq_true_eq] at hs
 exact ⟨⟨h.rows, h.ints, h.cap, fun r hr => by have := hs.2.2 r hr; omega, by omega⟩, hs.1, hs.2.1⟩
theorem jms {a b c : Nat} (h : jlj a b c = true) : c ≤ 9 ∧ b ≤ 4 := by
 unfold jlj at h
 simp only [Bool.and_eq_true, decide_eq_true_eq] at h
 exact ⟨h.1, h.2.1⟩
theorem jhJ (n hd : Int) (A B C : Option Addr) (l : List Edg) (ts : List q9) (ns : List z6) (ca cb cc : Nat) (P F : Option Addr) (rs : List Rt) (left : List Int) (cp cf : Nat) (w0 : World) (hN : jaE w0 A B C l ts ns cc) (hP : jiz w0 P rs) (hF : k9 w0 F left) :
  Calls Tryz.prog 4 #[.agg #[I n, .slice A l.length ca, .slice B ts.length cb, .slice C ns.length cc, I hd], .agg #[.slice P rs.length cp, .slice F left.length cf]] w0 fun e w' => e = .returned (.bool true) ∧ Below w0.heap.size w0 w' := by
 have H := SH.refl w0
 refine Calls.ofWP Tryz.func4 rfl Tryz.results4 Tryz.ntmps4 rfl<|Y.qr<|Y.bx (cA rfl) H ?_
 clear H; intro g2 w H
 refine Y.bx (cA rfl) H ?_
 clear H; intro g3 w H
 refine Y.aB rfl<|Y.z<|Y.qq<|Y.O H 1 rfl<|Y.cl 16 rfl (jl9 n hd A B C l.length ts.length ns.length ca cb cc w) H ?_
 clear H; intro w H
 refine Y.v (Ev.not rfl)<|Y.B rfl<|Y.g rfl rfl (fun hg => Y.o H 0 rfl rfl)<|OPS.gcall0 (f := 14) (jiS P F rs left.length cp cf w (hP.rows.sh H)) (fun _ _ h => h) rfl rfl rfl rfl rfl (fun hg => EvC.conv (EvC.func (z7 rfl)) (l1 (gvE hg rfl))) ?_
 intro w hbc; replace H := H.toBelow hbc
 refine Y.g rfl rfl (fun hg => Ev.not (gvE hg rfl))<|Y.po rfl<|Y.z ?_
 refine WP.cond rfl (fun hc1 => ?_) (fun hc1 => ?_)
 ·refine Y.qr<|Y.cl 23 rfl (jfK w) H ?_
  clear H; intro w H
  refine Y.aB rfl<|Y.z ?_
  refine WP.ret ⟨_, rfl, ?_⟩
  exact ⟨rfl, H.below⟩
 have hg : jlj l.length ts.length ns.length = true ∧ jcO rs left.length = true := by simpa using hc1
 obtain ⟨hS, _, hl⟩ := hP.small hg.2
 have hnl : ns.length ≤ 1000 := by have := jms hg.1; omega
 replace hl : left.length ≤ 1000 := by omega
 refine Y.k<|Y.qr<|Y.O H 1 rfl<|Y.O H 0 rfl<|Y.cl 27 rfl (jdT n hd A B C P F l ts ns rs left ca cb cc cp cf w (hN.sh H) (hS.sh H) (hF.sh H) hl hnl) H ?_
 clear H; intro w H
 refine Y.T rfl<|Y.G rfl<|Y.G rfl<|Y.G rfl<|Y.b rfl<|Y.b rfl<|Y.bz rfl<|Y.qr<|Y.O H 1 rfl<|Y.O H 0 rfl<|Y.cl 34 rfl (jin n hd A B C P F l ts ns rs left ca cb cc cp cf w (hN.sh H) (hS.sh H) (hF.sh H) hl hnl) H ?_
 clear H; intro w H
 refine Y.T rfl<|Y.G rfl<|Y.G rfl<|Y.G rfl<|Y.b rfl<|Y.b rfl<|Y.bz rfl<|Y.qr<|Y.O H 1 rfl<|Y.O H 0 rfl<|Y.c2 41 rfl (jny n hd A B C P F l ts ns rs left ca cb cc cp cf w (hN.sh H) (hS.sh H) (hF.sh H) hl hnl) ?_
 rintro _ w ⟨x, rfl, hA, hb⟩
 refine ⟨_, rfl, ?_⟩
 replace H := H.toBelow hb; clear hb
 refine Y.T rfl<|Y.G rfl<|Y.G rfl<|Y.b rfl<|Y.bz rfl<|Y.qr<|Y.O H 1 rfl<|Y.O H 0 rfl<|Y.c2 47 rfl (r45Gap n hd A B C P F l ts ns rs left ca cb cc cp cf w (hN.sh H) (hS.sh H) (hF.sh H) hl hnl (fun h => by obtain ⟨_, _, _, s, b, us, vs, hR, _⟩ := hA.good h; exact ⟨s, b, us, vs, hR⟩)) ?_
 rintro _ w ⟨y, rfl, hA2, hb⟩
 refine ⟨_, rfl, ?_⟩
 replace H := H.toBelow hb; clear hb
 obtain rfl := jmJ hA hA2
 refine Y.T rfl<|Y.G rfl<|Y.G rfl<|Y.b rfl<|Y.bz rfl<|Y.qr<|Y.a rfl<|Y.a rfl<|Y.v (Ev.eql rfl rfl)<|Y.B rfl<|Y.gm rfl<|Y.gm rfl<|Y.g rfl rfl (fun hg => Ev.eql (gvE hg rfl) (gvE hg rfl))<|Y.pa rfl<|Y.B rfl<|Y.gm rfl<|Y.gm rfl<|Y.g rfl rfl (fun hg => Ev.eql (gvE hg rfl) (gvE hg rfl))<|Y.pa rfl<|Y.B rfl<|Y.gm rfl<|Y.gm rfl<|Y.g rfl rfl (fun hg => Ev.eql (gvE hg rfl) (gvE hg rfl))<|Y.pa rfl<|Y.B rfl<|Y.gm rfl<|Y.gm rfl<|Y.g rfl rfl (fun hg => Ev.eql (gvE hg rfl) (gvE hg rfl))<|Y.pa rfl<|Y.B rfl<|OPS.gcall0 (f := 10) (jfK _) (fun _ _ h => h) rfl rfl rfl rfl rfl (fun hg => (EvC.func (z7 rfl))) ?_
 intro w hbc; replace H := H.toBelow hbc
 refine Y.pa rfl<|Y.aB rfl<|Y.z ?_
 refine WP.ret ⟨_, rfl, ?_⟩
 exact ⟨jkr rfl (by simp), H.below⟩
end Go.Proofs.YtgcokllbophkkaaGreat
