/-
 jbO: Cheapest.
-/
import Derived.Test.YtgcokllbophkkaaGreatFT12
import Derived.Test.YtgcokllbophkkaaGreatPtr
import Derived.Test.YtgcokllbophkkaaGreatFQ1
import Derived.Test.YtgcokllbophkkaaGreatT22
set_option linter.all false
set_option maxHeartbeats 4000000
namespace Go.Proofs.YtgcokllbophkkaaGreat.Flo
open Go Go.W Go.RowKit
structure CheapOk (m s t : Nat) (l : List Arc) (amt : Int) (on pots : List Int) : Prop where
 flow : IsFlow m l s t on amt
 opt : OptPot (potF pots) l on
 plen : pots.length = m
 zero : pots.getD s 0 = 0
 bd : ∀ v, v < m → 0 ≤ pots.getD v 0 ∧ pots.getD v 0 ≤ 65536 * m * m
def cheapErr (n f t amt : Int) (l : List Arc) (most : Int) : Int := if endsErr n l f t ≠ 0 then endsErr n l f t else if (decide (amt < 0) || decide (65536 < amt)) = true then 1 else if most < amt then 15 else 0
theorem jiv {l : List Arc} {m : Nat} (hc : ∀ a ∈ l, 0 ≤ a.cost) : OptPot (potF (List.replicate m 0)) l (List.replicate l.length 0) := fun i h h2 => by
 have hz : ∀ u : Int, potF (List.replicate m 0) u = 0 := fun u => by
  by_cases h : u.toNat < m <;> simp [potF, h]
 have e : (List.replicate l.length (0 : Int))[i] = 0 := by simp
 have := hc _ (List.getElem_mem h)
 refine ⟨fun _ => ?_, fun hp => ?_⟩
 ·unfold rc; rw [hz, hz]; omega
 ·rw [e] at hp; omega
theorem ji1 {n s : Nat} {pots : List Int} (h : jlB n s pots) (hn : n ≤ 64) : ∀ v, v < n → 0 ≤ pots.getD v 0 ∧ pots.getD v 0 ≤ 1000000000000 := fun v hv => by
 have h1 := h.le hv
 have h2 : 65536 * (n : Int) * n ≤ 65536 * 64 * 64 := Int.mul_le_mul (by omega) (by omega) (by omega) (by omega)
 have := (h.bd v hv).1
 omega
theorem flowCheapest (n f t amt : Int) (A : Option Addr) (l : List Arc) (cap : Nat) (w0 : World) (hz : ArcsAt w0 A l) :
  Calls Tryz.prog 92 #[.agg #[I n, .slice A l.length cap], I f, I t, I amt] w0 fun e w' => ∃ (most : Int), MostRet n f t l most (endsErr n l f t) ∧
   ((cheapErr n f t amt l most ≠ 0 ∧ e = .returned (.tuple #[.agg #[I 0, I 0, .slice none 0 0, .slice none 0 0], I (cheapErr n f t amt l most)]) ∧ Below w0.heap.size w0 w') ∨
    (cheapErr n f t amt l most = 0 ∧ ∃ (m s d : Nat) (go gp : Nat) (on pots : List Int), jlk n f t l m s d ∧ CheapOk m s d l amt on pots ∧ e = .returned (.tuple #[.agg #[I amt, I (costOf l on), .slice (some ⟨go, 0, none⟩) on.length on.length, .slice (some ⟨gp, 0, none⟩) pots.length pots.length], I 0]) ∧ SH w0 [] w' [⟨go, 3, on.map I⟩, ⟨gp, 3, pots.map I⟩])) := by
 have H := SH.refl w0
 refine Calls.ofWPc Tryz.func92 rfl Tryz.results92 Tryz.ntmps92 rfl<|Y.qr<|Y.bx (cA rfl) H ?_
 clear H; intro g4 w H
 refine Y.al H rfl rfl ?_
 clear H; intro g8 w H
 refine Y.bz rfl<|Y.qr<|Y.O H 1 rfl<|Y.a rfl<|Y.a rfl<|Y.c2 26 rfl (jl8 n f t A l cap w (hz.sh H)) ?_
 rintro _ w ⟨most, er, rfl, hM, hb⟩
 refine ⟨_, rfl, ?_⟩
 replace H := H.toBelow hb; clear hb
 obtain ⟨rfl, hM1, hM2⟩ := hM
 refine Y.T rfl<|Y.G rfl<|Y.G rfl<|Y.b rfl<|Y.bz rfl<|Y.q<|WP.block<|Y.qr<|Y.a rfl<|Y.V rfl<|Y.aB rfl<|Y.z ?_
 refine Y.i rfl (fun hc2 => ?_) fun hc2 => ?_
 ·refine Y.qr<|Y.v (Ev.build (jeM (e := fun _ => .int .i64 0)))<|Y.a rfl<|Y.ss 0 H rfl (cA rfl) rfl ?_
  clear H; intro w H
  refine Y.bz rfl ?_
  refine WP.ret ⟨[_, _], ⟨(by exact x6 0 H rfl (j6 rfl) (j4 rfl) (by rfl) rfl), rfl, trivial⟩, ?_⟩
  have h : endsErr n l f t ≠ 0 := by simpa using hc2
  have hce : cheapErr n f t amt l most = endsErr n l f t := by rw [cheapErr, if_pos h]
  exact ⟨most, ⟨rfl, hM1, hM2⟩, .inl ⟨by rw [hce]; exact h, by rw [hce]; rfl, H.below⟩⟩
 have h0 : endsErr n l f t = 0 := by simpa using hc2
 obtain ⟨m, s, d, hE⟩ := je2 h0
 refine Y.qr<|Y.a rfl<|Y.lt rfl<|Y.B rfl<|Y.gm rfl<|Y.g rfl rfl (fun hg => Ev.gtr (gvE hg rfl) rfl)<|Y.po rfl<|Y.aB rfl<|Y.z ?_
 refine Y.i rfl (fun hc4 => ?_) fun hc4 => ?_
 ·refine Y.qr<|Y.v (Ev.build (jeM (e := fun _ => .int .i64 0)))<|Y.ss 0 H rfl (cA rfl) rfl ?_
  clear H; intro w H
  refine Y.bz rfl ?_
  refine WP.ret ⟨[_, _], ⟨(by exact x6 0 H rfl (j6 rfl) (j4 rfl) (by rfl) rfl), rfl, trivial⟩, ?_⟩
  have hce : cheapErr n f t amt l most = 1 := by rw [cheapErr, if_neg (by simp [h0]), if_pos hc4]
  exact ⟨most, ⟨rfl, hM1, hM2⟩, .inl ⟨by rw [hce]; decide, by rw [hce]; rfl, H.below⟩⟩
 refine Y.qr<|Y.a rfl<|Y.a rfl<|Y.v (Ev.gtr rfl rfl)<|Y.aB rfl<|Y.z ?_
 refine Y.i rfl (fun hc6 => ?_) fun hc6 => ?_
 ·refine Y.qr<|Y.v (Ev.build (jeM (e := fun _ => .int .i64 0)))<|Y.ss 0 H rfl (cA rfl) rfl ?_
  clear H; intro w H
  refine Y.bz rfl ?_
  refine WP.ret ⟨[_, _], ⟨(by exact x6 0 H rfl (j6 rfl) (j4 rfl) (by rfl) rfl), rfl, trivial⟩, ?_⟩
  have hce : cheapErr n f t amt l most = 15 := by rw [cheapErr, if_neg (by simp [h0]), if_neg (by simp [hc4]), if_pos (by simpa using hc6)]
  exact ⟨most, ⟨rfl, hM1, hM2⟩, .inl ⟨by rw [hce]; decide, by rw [hce]; rfl, H.below⟩⟩
 have hce : cheapErr n f t amt l most = 0 := by rw [cheapErr, if_neg (by simp [h0]), if_neg (by simp [hc4]), if_neg (by simpa using hc6)]
 have hma : amt ≤ most := by simp at hc6; omega
 have ha0 : 0 ≤ amt ∧ amt ≤ 65536 := by simp at hc4; omega
 have e1 := hE.hn
 have e2 := hE.hf
 have e3 := hE.ht
 subst e1 e2 e3
 have hN := hE.net
 have hn2 := hN.n2
 have hll := hN.len
 obtain ⟨m', hm', hmax⟩ := hM2 h0
 rw [show m' = m from by omega] at hmax
 clear hm'
 refine Y.k<|Y.q ?_
 refine WP.rheldC [12, 13, 47, 48, 49, 50, 51, 52, 53, 54, 55] (fun u w' => ∃ g12 g51 g55 : Nat, u 12 = .pointer (some ⟨g12, 0, none⟩) ∧ u 13 = .slice (some ⟨g55, 0, none⟩) m m ∧ SH w0 [] w' [⟨g12, 174, [I m, .slice A l.length cap, .slice (some ⟨g51, 0, none⟩) l.length l.length]⟩, ⟨g51, 3, (List.replicate l.length 0).map I⟩, ⟨g55, 3, (List.replicate m 0).map I⟩, ⟨g8, 118, [I 0, I 0, .slice none 0 0, .slice none 0 0]⟩, ⟨g4, 123, [I m, .slice A l.length cap]⟩]) mixed H ?_ ?_
 ·clear H; intro w hbw8 H
  refine Y.t 0 H rfl rfl (fun w H => Y.o H 1 rfl rfl)<|Y.tf 1 H rfl<|Y.tl 2 H 1 rfl<|Y.t 3 H rfl rfl (fun w H => Y.n rfl)<|Y.tf 6 H rfl<|Y.tl 7 H 1 rfl ?_
  refine Y.A [4, 8, 9] rfl ⟨⟨_, rfl, ?_⟩, ⟨_, rfl, ?_⟩, ⟨_, rfl, ?_⟩, trivial⟩
  ·refine Y.M H rfl ?_
   clear H; intro g51 w H
   refine Y.z <| ⟨(H.drop Y.sc), ?_⟩
   refine Y.t 5 (H.drop Y.sc) rfl rfl (fun w H => Ev.build (jbw rfl rfl)) ?_
   refine Y.A2 8 9 rfl rfl rfl ?_ ?_
   ·refine Y.M H rfl ?_
    clear H; intro g55 w H
    refine Y.z <| ⟨(H.drop (Y.sc.trans Y.sc)), ?_⟩
    refine Y.A1 9 rfl rfl<|Y.al H rfl rfl ?_
    clear H; intro g12 w H
    refine Y.z <| ⟨(H.drop (Y.sc.trans (Y.sc.trans Y.sc))), ?_⟩
    refine Y.A1 10 rfl rfl<|Y.ss 0 H rfl (cA rfl) rfl ?_
    clear H; intro w H
    refine Y.z <| ⟨(H.drop (Y.sc.trans (Y.sc.trans Y.sc))), ?_⟩
    refine Y.t 11 (H.drop (Y.sc.trans (Y.sc.trans Y.sc))) rfl rfl (fun w H => Ev.asS rfl)<|Y.dn ?_
    refine ⟨Y.ag, g12, g51, g55, rfl, rfl, ?_⟩; rw [← jag, ← jag]; exact H.reidx [0, 2, 1, 3, 4] (by decide) rfl
   ·refine Y.al H rfl rfl ?_
    clear H; intro g12 w H
    refine Y.z <| ⟨(H.drop (Y.sc.trans Y.sc)), ?_⟩
    refine Y.A2 8 10 rfl rfl rfl ?_ ?_
    ·refine Y.M H rfl ?_
     clear H; intro g55 w H
     refine Y.z <| ⟨(H.drop (Y.sc.trans (Y.sc.trans Y.sc))), ?_⟩
     refine Y.A1 10 rfl rfl<|Y.ss 1 H rfl (cA rfl) rfl ?_
     clear H; intro w H
     refine Y.z <| ⟨(H.drop (Y.sc.trans (Y.sc.trans Y.sc))), ?_⟩
     refine Y.t 11 (H.drop (Y.sc.trans (Y.sc.trans Y.sc))) rfl rfl (fun w H => Ev.asS rfl)<|Y.dn ?_
     refine ⟨Y.ag, g12, g51, g55, rfl, rfl, ?_⟩; rw [← jag, ← jag]; exact H.reidx [1, 2, 0, 3, 4] (by decide) rfl
    ·refine Y.ss 0 H rfl (cA rfl) rfl ?_
     clear H; intro w H
     refine Y.z <| ⟨(H.drop (Y.sc.trans Y.sc)), ?_⟩
     refine Y.A1 8 rfl rfl<|Y.M H rfl ?_
     clear H; intro g55 w H
     refine Y.z <| ⟨(H.drop (Y.sc.trans (Y.sc.trans Y.sc))), ?_⟩
     refine Y.t 11 (H.drop (Y.sc.trans (Y.sc.trans Y.sc))) rfl rfl (fun w H => Ev.asS rfl)<|Y.dn ?_
     refine ⟨Y.ag, g12, g51, g55, rfl, rfl, ?_⟩; rw [← jag, ← jag]; exact H.reidx [1, 2, 0, 3, 4] (by decide) rfl
  ·refine Y.M H rfl ?_
   clear H; intro g55 w H
   refine Y.z <| ⟨(H.drop Y.sc), ?_⟩
   refine Y.A2 4 9 rfl rfl rfl ?_ ?_
   ·refine Y.M H rfl ?_
    clear H; intro g51 w H
    refine Y.z <| ⟨(H.drop (Y.sc.trans Y.sc)), ?_⟩
    refine Y.t 5 (H.drop (Y.sc.trans Y.sc)) rfl rfl (fun w H => Ev.build (jbw rfl rfl))<|Y.A1 9 rfl rfl<|Y.al H rfl rfl ?_
    clear H; intro g12 w H
    refine Y.z <| ⟨(H.drop (Y.sc.trans (Y.sc.trans Y.sc))), ?_⟩
    refine Y.A1 10 rfl rfl<|Y.ss 0 H rfl (cA rfl) rfl ?_
    clear H; intro w H
    refine Y.z <| ⟨(H.drop (Y.sc.trans (Y.sc.trans Y.sc))), ?_⟩
    refine Y.t 11 (H.drop (Y.sc.trans (Y.sc.trans Y.sc))) rfl rfl (fun w H => Ev.asS rfl)<|Y.dn ?_
    refine ⟨Y.ag, g12, g51, g55, rfl, rfl, ?_⟩; rw [← jag, ← jag]; exact H.reidx [0, 1, 2, 3, 4] (by decide) rfl
   ·refine Y.al H rfl rfl ?_
    clear H; intro g12 w H
    refine Y.z <| ⟨(H.drop (Y.sc.trans Y.sc)), ?_⟩
    refine Y.A1 4 rfl rfl<|Y.M H rfl ?_
    clear H; intro g51 w H
    refine Y.z <| ⟨(H.drop (Y.sc.trans (Y.sc.trans Y.sc))), ?_⟩
    refine Y.t 5 (H.drop (Y.sc.trans (Y.sc.trans Y.sc))) rfl rfl (fun w H => Ev.build (jbw rfl rfl))<|Y.A1 10 rfl rfl<|Y.ss 1 H rfl (cA rfl) rfl ?_
    clear H; intro w H
    refine Y.z <| ⟨(H.drop (Y.sc.trans (Y.sc.trans Y.sc))), ?_⟩
    refine Y.t 11 (H.drop (Y.sc.trans (Y.sc.trans Y.sc))) rfl rfl (fun w H => Ev.asS rfl)<|Y.dn ?_
    refine ⟨Y.ag, g12, g51, g55, rfl, rfl, ?_⟩; rw [← jag, ← jag]; exact H.reidx [1, 0, 2, 3, 4] (by decide) rfl
  ·refine Y.al H rfl rfl ?_
   clear H; intro g12 w H
   refine Y.z <| ⟨(H.drop Y.sc), ?_⟩
   refine Y.A2 4 8 rfl rfl rfl ?_ ?_
   ·refine Y.M H rfl ?_
    clear H; intro g51 w H
    refine Y.z <| ⟨(H.drop (Y.sc.trans Y.sc)), ?_⟩
    refine Y.t 5 (H.drop (Y.sc.trans Y.sc)) rfl rfl (fun w H => Ev.build (jbw rfl rfl)) ?_
    refine Y.A2 8 10 rfl rfl rfl ?_ ?_
    ·refine Y.M H rfl ?_
     clear H; intro g55 w H
     refine Y.z <| ⟨(H.drop (Y.sc.trans (Y.sc.trans Y.sc))), ?_⟩
     refine Y.A1 10 rfl rfl<|Y.ss 2 H rfl (cA rfl) rfl ?_
     clear H; intro w H
     refine Y.z <| ⟨(H.drop (Y.sc.trans (Y.sc.trans Y.sc))), ?_⟩
     refine Y.t 11 (H.drop (Y.sc.trans (Y.sc.trans Y.sc))) rfl rfl (fun w H => Ev.asS rfl)<|Y.dn ?_
     refine ⟨Y.ag, g12, g51, g55, rfl, rfl, ?_⟩; rw [← jag, ← jag]; exact H.reidx [2, 1, 0, 3, 4] (by decide) rfl
    ·refine Y.ss 1 H rfl (cA rfl) rfl ?_
     clear H; intro w H
     refine Y.z <| ⟨(H.drop (Y.sc.trans Y.sc)), ?_⟩
     refine Y.A1 8 rfl rfl<|Y.M H rfl ?_
     clear H; intro g55 w H
     refine Y.z <| ⟨(H.drop (Y.sc.trans (Y.sc.trans Y.sc))), ?_⟩
     refine Y.t 11 (H.drop (Y.sc.trans (Y.sc.trans Y.sc))) rfl rfl (fun w H => Ev.asS rfl)<|Y.dn ?_
     refine ⟨Y.ag, g12, g51, g55, rfl, rfl, ?_⟩; rw [← jag, ← jag]; exact H.reidx [2, 1, 0, 3, 4] (by decide) rfl
   ·refine Y.M H rfl ?_
    clear H; intro g55 w H
    refine Y.z <| ⟨(H.drop (Y.sc.trans Y.sc)), ?_⟩
    refine Y.A1 4 rfl rfl<|Y.M H rfl ?_
    clear H; intro g51 w H
    refine Y.z <| ⟨(H.drop (Y.sc.trans (Y.sc.trans Y.sc))), ?_⟩
    refine Y.t 5 (H.drop (Y.sc.trans (Y.sc.trans Y.sc))) rfl rfl (fun w H => Ev.build (jbw rfl rfl))<|Y.A1 10 rfl rfl<|Y.ss 2 H rfl (cA rfl) rfl ?_
    clear H; intro w H
    refine Y.z <| ⟨(H.drop (Y.sc.trans (Y.sc.trans Y.sc))), ?_⟩
    refine Y.t 11 (H.drop (Y.sc.trans (Y.sc.trans Y.sc))) rfl rfl (fun w H => Ev.asS rfl)<|Y.dn ?_
    refine ⟨Y.ag, g12, g51, g55, rfl, rfl, ?_⟩; rw [← jag, ← jag]; exact H.reidx [2, 0, 1, 3, 4] (by decide) rfl
 clear H
 rintro u w ⟨g12, g51, g55, h12, h13, H⟩
 refine WP.know (t := 12) h12 (WP.know (t := 13) h13 ?_)
 refine Y.qq<|Y.a rfl<|Y.bz rfl<|WP.block<|WP.loop [14, 15, 16, 17, 18, 19, 20, 21, 57, 58, 59, 60, 61, 62, 63, 64, 65, 66, 67, 68, 69, 70, 71, 72, 73, 74, 75, 76, 77, 78, 79, 80, 81, 82, 83, 84, 85, 86, 87, 88, 89, 90, 91, 92, 93, 94, 95, 96, 97, 98, 99, 100, 101, 102, 103, 104, 105, 106, 107, 108, 109, 110, 111, 112, 113, 114, 115, 116] (fun k e w' => ∃ (left : Int) (on pots : List Int), on.length = l.length ∧ e 14 = I left ∧ 0 ≤ left ∧ left ≤ amt ∧ left = k ∧ IsFlow m l s d on (amt - left) ∧ OptPot (potF pots) l on ∧ jlB m s pots ∧ SH w0 [] w' [⟨g12, 174, [I m, .slice A l.length cap, .slice (some ⟨g51, 0, none⟩) l.length l.length]⟩, ⟨g51, 3, on.map I⟩, ⟨g55, 3, pots.map I⟩, ⟨g8, 118, [I 0, I 0, .slice none 0 0, .slice none 0 0]⟩, ⟨g4, 123, [I m, .slice A l.length cap]⟩]) (amt.toNat) (⟨amt, List.replicate l.length 0, List.replicate m 0, by simp, rfl, ha0.1, Int.le_refl _, by omega, by rw [Int.sub_self]; exact jcL fun a ha => (hN.caps a ha).1.1, jiv fun a ha => (hN.caps a ha).2.1, jlB.init s, H⟩) ?_
 clear H
 rintro k u w ⟨left, on, pots, hol, h14, hl0, hl1, hlk, hfl, hop, hpi, H⟩
 refine WP.know (t := 14) h14 ?_
 have hpl := hpi.len
 have hsz := ji1 hpi hn2
 have hob : ∀ i (h : i < on.length), 0 ≤ on[i] ∧ on[i] ≤ 65536 := fun i h => by
  have h1 := hfl.v.bd i (by omega) h
  have h2 := (hN.caps l[i] (List.getElem_mem (by omega))).1
  omega
 refine Y.qq<|Y.a rfl<|Y.v (Ev.gtr rfl rfl)<|Y.z ?_
 refine Y.i rfl (fun hc10 => ?_) fun hc10 => ?_
 ·have hlp : 0 < left := by simpa using hc10
  refine Y.k<|WP.block<|Y.qr<|Y.O H 0 rfl<|Y.a rfl<|Y.sS rfl ?_
  have hnear := jhz m s A (some ⟨g51, 0, none⟩) (some ⟨g55, 0, none⟩) l on pots cap l.length m w hE.s1 hN hol hpl (hz.sh H) (y9 H 1 rfl) (y9 H 2 rfl) hfl.v hop hpi.zero (fun i h => by
   have := hsz i (by omega)
   rw [List.getD_eq_getElem?_getD, List.getElem?_eq_getElem h] at this
   simpa using this)
  rw [hol, hpl] at hnear
  refine Y.c2 63 rfl (hnear) ?_
  rintro _ w ⟨gS, gI, sts, dist, rk, rfl, hnr, Hc⟩
  refine ⟨_, rfl, ?_⟩
  replace H := SH.call (L1 := [⟨g12, 174, [I m, .slice A l.length cap, .slice (some ⟨g51, 0, none⟩) l.length l.length]⟩, ⟨g51, 3, on.map I⟩, ⟨g55, 3, pots.map I⟩, ⟨g8, 118, [I 0, I 0, .slice none 0 0, .slice none 0 0]⟩, ⟨g4, 123, [I m, .slice A l.length cap]⟩]) (Lv := []) (by simpa using H) Hc
  clear Hc hnear
  simp only [List.cons_append, List.nil_append] at H
  have hsl := hnr.slen
  have hdl := hnr.dlen
  refine Y.T rfl<|Y.G rfl<|Y.G rfl<|Y.aS rfl<|Y.aS rfl<|Y.z<|Y.qr<|Y.bz rfl<|Y.qq<|Y.sS rfl<|Y.E rfl<|Y.a rfl<|Y.z<|WP.block<|WP.loop [17, 18, 19, 68, 69, 70, 71, 72, 73, 74, 75, 76, 77, 78, 79, 80, 81] (fun g e w' => ∃ q : Nat, q + g = m ∧ e 68 = I q ∧ e 17 = I (jb2 sts dist q) ∧ SH w0 [] w' [⟨g12, 174, [I m, .slice A l.length cap, .slice (some ⟨g51, 0, none⟩) l.length l.length]⟩, ⟨g51, 3, on.map I⟩, ⟨g55, 3, pots.map I⟩, ⟨g8, 118, [I 0, I 0, .slice none 0 0, .slice none 0 0]⟩, ⟨g4, 123, [I m, .slice A l.length cap]⟩, ⟨gS, 179, sts.flatMap y2⟩, ⟨gI, 3, dist.map I⟩]) (m) (⟨0, by omega, rfl, rfl, H⟩) ?_
  clear H
  rintro g u2 w ⟨q, hq, h68, h17, H⟩
  refine WP.know (t := 68) h68 (WP.know (t := 17) h17 ?_)
  refine Y.qr<|Y.lt rfl<|Y.z<|Y.q ?_
  refine Y.i rfl (fun hc14 => ?_) fun hc14 => ?_
  ·have hqm : q < m := by simpa using hc14
   obtain ⟨_, _, e1, hrow⟩ := jbF jaj H 5 rfl q (by omega)
   cases e1
   have hkq : kn sts q = sts[q].known := by unfold kn; simp [hsl, hqm]
   have hdq : dAt dist q = dist[q]'(by omega) := by simp [dAt, hdl, hqm]
   refine Y.k<|Y.q<|WP.block<|Y.qr<|Y.a rfl<|Y.U rfl<|Y.v (by (change Ev _ _ _ _ (Op.load 179 (Operand.tmp 71)) _; exact Ev.loadN (y2 sts[q]) (j6 rfl) (j4 rfl) rfl hrow))<|Y.al H rfl rfl ?_
   clear H; intro g19 w H
   refine Y.b rfl<|Y.ss 0 H rfl (cA rfl) rfl ?_
   clear H; intro w H
   refine Y.z<|Y.qr<|Y.W H 0 rfl<|Y.z ?_
   refine Y.i rfl (fun hc16 => ?_) fun hc16 => ?_
   ·have hfar : jb2 sts dist (q + 1) = (if jb2 sts dist q < dist[q] then dist[q] else jb2 sts dist q) := by rw [jb2, if_pos (by rw [hkq]; exact hc16), hdq]
    refine Y.r ?_
    obtain ⟨_, _, e1, hdc⟩ := y9 H 7 rfl q (by omega)
    cases e1
    refine Y.a rfl<|Y.sS rfl<|Y.a rfl<|Y.I rfl<|Y.v (Y.c (by assumption) rfl) ?_
    refine Y.v (Ev.max rfl rfl)<|Y.bz rfl<|Y.r<|Y.P rfl<|Y.a rfl<|Y.z ?_
    exact ⟨Y.ag, g - 1, by omega, q + 1, by omega, rfl, by rw [hfar]; rfl, H.drop Y.sc⟩
   have hfar : jb2 sts dist (q + 1) = jb2 sts dist q := by rw [jb2, if_neg (by rw [hkq, hc16]; simp)]
   refine Y.k<|Y.r<|Y.P rfl<|Y.a rfl<|Y.z ?_
   exact ⟨Y.ag, g - 1, by omega, q + 1, by omega, rfl, by rw [hfar]; rfl, H.drop Y.sc⟩
  have hqm : m = q := by simp at hc14; omega
  subst hqm
  obtain ⟨hF0, hF1, _⟩ := jcC sts dist m
  have hpi2 := hpi.step hnr hE.s1
  generalize hF : jb2 sts dist m = F at *
  have hnl := jdC sts dist F pots
  refine WP.exit<|XB.hit<|Y.qq<|Y.sS rfl<|Y.E rfl<|Y.a rfl<|Y.z<|WP.block<|WP.loop [20, 21, 84, 85, 86, 87, 88, 89, 90, 91, 92, 93, 94, 95, 96, 97, 98, 99, 100, 101, 102, 103, 104, 105, 106, 107, 108] (fun g e w' => ∃ q : Nat, q + g = m ∧ e 84 = I q ∧ SH w0 [] w' [⟨g12, 174, [I m, .slice A l.length cap, .slice (some ⟨g51, 0, none⟩) l.length l.length]⟩, ⟨g51, 3, on.map I⟩, ⟨g55, 3, (jcl (jdb sts dist F pots) pots q).map I⟩, ⟨g8, 118, [I 0, I 0, .slice none 0 0, .slice none 0 0]⟩, ⟨g4, 123, [I m, .slice A l.length cap]⟩, ⟨gS, 179, sts.flatMap y2⟩, ⟨gI, 3, dist.map I⟩]) (m) (⟨0, by omega, rfl, by rw [jde]; exact H⟩) ?_
  clear H hq
  rintro g u3 w ⟨q, hq, h84, H⟩
  refine WP.know (t := 84) h84<|Y.qr<|Y.lt rfl<|Y.z<|Y.q ?_
  refine Y.i rfl (fun hc20 => ?_) fun hc20 => ?_
  ·have hqm : q < m := by simpa using hc20
   obtain ⟨_, _, e1, hrow⟩ := jbF jaj H 5 rfl q (by omega)
   cases e1
   have hkq : kn sts q = sts[q].known := by unfold kn; simp [hsl, hqm]
   have hdq : dAt dist q = dist[q]'(by omega) := by simp [dAt, hdl, hqm]
   have hml : (jcl (jdb sts dist F pots) pots q).length = m := by rw [jci hnl (by omega)]; omega
   have hpq : pots.getD q 0 = pots[q]'(by omega) := by simp [hpl, hqm]
   have hmq : (jcl (jdb sts dist F pots) pots q)[q]'(by omega) = pots[q]'(by omega) := by
    have := jim (m := pots) hnl (show q < (jdb sts dist F pots).length by omega)
    rw [List.getElem?_eq_getElem (by omega), List.getElem?_eq_getElem (by omega)] at this
    simpa using this
   have hnq : (jdb sts dist F pots)[q]'(by omega) = pots[q]'(by omega) + (if kn sts q = true then dist[q]'(by omega) else F) := by
    have := jdD (sts := sts) (dist := dist) (F := F) (show q < pots.length by omega)
    rw [hpq, hdq, List.getD_eq_getElem?_getD, List.getElem?_eq_getElem (by omega)] at this
    simpa using this
   have hms := jdV (m := pots) hnl (show q < (jdb sts dist F pots).length by omega)
   have hbq := hsz q hqm
   rw [hpq] at hbq
   have hkb : kn sts q = true → 0 ≤ dist[q]'(by omega) ∧ dist[q]'(by omega) ≤ 65536 * m := fun hk => by
    have q1 := hnr.nn q hqm hk
    have q2 := hnr.bd q hqm hk
    simp only [pof, Int.toNat_natCast] at q2
    rw [hpq] at q2
    rw [hdq] at q1 q2; omega
   refine Y.k<|Y.q<|WP.block<|Y.qr<|Y.a rfl<|Y.U rfl<|Y.v (by (change Ev _ _ _ _ (Op.load 179 (Operand.tmp 87)) _; exact Ev.loadN (y2 sts[q]) (j6 rfl) (j4 rfl) rfl hrow))<|Y.al H rfl rfl ?_
   clear H; intro g21 w H
   refine Y.b rfl<|Y.ss 0 H rfl (cA rfl) rfl ?_
   clear H; intro w H
   refine Y.z<|Y.qr<|Y.W H 0 rfl<|Y.z ?_
   refine Y.i rfl (fun hc22 => ?_) fun hc22 => ?_
   ·have hkb2 := hkb (by rw [hkq]; exact hc22)
    rw [if_pos (by rw [hkq]; exact hc22)] at hnq
    refine WP.rtail 10 mixed (by kernel_rfl) H ?_
    clear H; intro w hbw23 H
    obtain ⟨_, _, e1, hpc⟩ := y9 H 3 rfl q (by omega)
    cases e1
    rw [hmq] at hpc
    obtain ⟨_, _, e1, hdc⟩ := y9 H 7 rfl q (by omega)
    cases e1
    refine Y.sS rfl<|Y.a rfl<|Y.I rfl<|Y.v (Y.c (by assumption) rfl) ?_
    refine Y.sS rfl<|Y.a rfl<|Y.I rfl<|Y.v (Y.c (by assumption) rfl) ?_
    refine Y.P rfl<|Y.I rfl<|OPS.nil_s ?_
    have hpu : jam ((jcl (jdb sts dist F pots) pots q).map I) (0 + q) [I (pots[q] + dist[q])] = (jcl (jdb sts dist F pots) pots (q + 1)).map I := by rw [Nat.zero_add, jae, ← hnq, hms]
    refine OPS.store (vs := [I (pots[q] + dist[q])]) 3 _ rfl rfl rfl (j4 rfl) rfl (cI rfl) rfl rfl H rfl (by simp only [List.length_map, hml]; omega) ?_
    clear H; intro w H
    rw [hpu] at H
    refine Y.z<|Y.r<|Y.P rfl<|Y.a rfl<|Y.z ?_
    exact ⟨Y.ag, g - 1, by omega, q + 1, by omega, rfl, H.drop Y.sc⟩
   rw [if_neg (by rw [hkq, hc22]; simp)] at hnq
   have hFb : F ≤ 65536 * m := by
    rw [← hF]
    exact jmM hnr (fun v hv => (hsz v hv).1) m (Nat.le_refl _)
   refine Y.r ?_
   obtain ⟨_, _, e1, hpc⟩ := y9 H 3 rfl q (by omega)
   cases e1
   rw [hmq] at hpc
   refine Y.sS rfl<|Y.a rfl<|Y.I rfl<|Y.v (Y.c (by assumption) rfl) ?_
   refine Y.a rfl<|Y.P rfl<|Y.I rfl ?_
   have hpu : jam ((jcl (jdb sts dist F pots) pots q).map I) (0 + q) [I (pots[q] + F)] = (jcl (jdb sts dist F pots) pots (q + 1)).map I := by rw [Nat.zero_add, jae, ← hnq, hms]
   refine OPS.store (vs := [I (pots[q] + F)]) 3 _ rfl rfl rfl (j4 rfl) rfl (cI rfl) rfl rfl H rfl (by simp only [List.length_map, hml]; omega) ?_
   clear H; intro w H
   rw [hpu] at H
   refine Y.z<|Y.r<|Y.P rfl<|Y.a rfl<|Y.z ?_
   exact ⟨Y.ag, g - 1, by omega, q + 1, by omega, rfl, H.drop Y.sc⟩
  have hqm2 : q = m := by simp at hc20; omega
  have hma : jcl (jdb sts dist F pots) pots m = jdb sts dist F pots := by
   have h := jdO hnl
   rw [show (jdb sts dist F pots).length = m by omega] at h
   exact h
  rw [hqm2, hma] at H
  have htk : kn sts d = true := by
   cases hk : kn sts d with
   | true => rfl
   | false =>
    have hmx := jiQ hnr hN.nodes hE.s1 hfl hk
    have := jcK.unique hN.nodes ⟨by omega, by have := hE.s1; omega⟩ hmax hmx
    omega
  obtain ⟨ks, hkl, hP⟩ := jfk (hnr.tree (st := ⟨sts, dist, [], 0, none, 0, []⟩)) m d hE.d1 htk (hnr.rkb d hE.d1 htk).2
  obtain ⟨m1, m2, m3⟩ := jbz sts ks left hlp fun x hx => by obtain ⟨p, _, hEd⟩ := hP.edge x hx; exact hEd.room_pos
  have hfl2 := jcj (by omega) hE.ne hP m3 hfl
  have hop2 := push_opt hnr hop hN.nodes hpl hol hF1 hP htk (jai sts ks left)
  have hgS : gS ≠ g51 := by have := H.nodup; simp at this; exact fun he => by subst he; simp at this
  refine WP.exit<|XB.hit<|Y.r<|Y.a rfl<|Y.O H 0 rfl<|Y.sS rfl<|Y.a rfl<|Y.a rfl<|Y.a rfl ?_
  have hpu := jil g51 A (some ⟨gS, 0, none⟩) l.length cap l.length m m s d left s d rfl rfl sts on ks w (jbF jaj H 5 rfl) (fun _ b o he => by cases he; simpa using hgS) (hP.chain hsl hol) (by omega) (by omega) (fun i h => by have := hob i h; omega) (H.reidx (L' := [⟨g51, 3, on.map I⟩]) [1] (by decide) rfl |>.restart (List.Sublist.refl _))
  rw [hol, hsl] at hpu
  refine Y.c2 115 rfl (hpu) ?_
  rintro _ w ⟨rfl, Hc⟩
  refine ⟨_, rfl, ?_⟩
  replace H := SH.call (L1 := [⟨g12, 174, [I m, .slice A l.length cap, .slice (some ⟨g51, 0, none⟩) l.length l.length]⟩, ⟨g55, 3, (jdb sts dist F pots).map I⟩, ⟨g8, 118, [I 0, I 0, .slice none 0 0, .slice none 0 0]⟩, ⟨g4, 123, [I m, .slice A l.length cap]⟩]) (Lv := [⟨g51, 3, on.map I⟩]) (H.reidx [0, 2, 3, 4, 1] (by decide) rfl) Hc
  clear Hc hpu
  refine Y.Q rfl<|Y.bz rfl ?_
  exact ⟨Y.ag, k - (jai sts ks left).toNat, by omega, left - jai sts ks left, ja0 sts ks (jai sts ks left) on, jdb sts dist F pots, by rw [jbo]; exact hol, rfl, by omega, by omega, by omega, by rw [show amt - (left - jai sts ks left) = amt - left + jai sts ks left by omega]; exact hfl2, hop2, hpi2, H.reidx [0, 4, 1, 2, 3] (by decide) rfl⟩
 have hl00 : left = 0 := by simp at hc10; omega
 rw [hl00, Int.sub_zero] at hfl
 refine WP.exit<|XB.hit<|Y.q ?_
 have Hf := H
 replace H := H.reidx (L' := [⟨g12, 174, [I m, .slice A l.length cap, .slice (some ⟨g51, 0, none⟩) l.length l.length]⟩, ⟨g51, 3, on.map I⟩, ⟨g55, 3, pots.map I⟩, ⟨g4, 123, [I m, .slice A l.length cap]⟩]) [0, 1, 2, 4] (by decide) rfl
 refine WP.rheldC [9, 117, 118, 119, 120, 121, 122, 123, 124, 125] (fun u w' => u 9 = I 0 ∧ SH w0 [] w' [⟨g8, 118, [I amt, I (costOf l on), .slice (some ⟨g51, 0, none⟩) l.length l.length, .slice (some ⟨g55, 0, none⟩) m m]⟩, ⟨g51, 3, on.map I⟩, ⟨g55, 3, pots.map I⟩]) mixed H ?_ ?_
 ·clear H; intro w hbw27 H
  refine Y.t 0 H rfl rfl (fun w H => Y.m rfl)<|Y.t 1 H rfl rfl (fun w H => Y.o H 3 rfl rfl)<|Y.tf 2 H rfl<|Y.tl 3 H 0 rfl<|Y.tf 5 H rfl<|Y.tl 6 H 0 rfl<|Y.t 7 H rfl rfl (fun w H => Ev.mvS rfl)<|Y.A1 4 rfl rfl ?_
  try replace Hf := Hf.toBelow hbw27
  have hpr := jle m A (some ⟨g51, 0, none⟩) l on cap l.length w hN hfl.v (hz.sh H) (y9 H 1 rfl)
  rw [hol] at hpr
  refine Y.c2 121 rfl hpr ?_
  rintro _ w ⟨rfl, hb⟩
  refine ⟨_, rfl, ?_⟩
  replace H := H.toBelow hb; replace Hf := Hf.toBelow hb; clear hb
  refine Y.z <| ⟨(H), ?_⟩
  refine Y.t 8 H rfl rfl (fun w H => Ev.build (jcX rfl rfl rfl rfl))<|Y.A1 9 rfl rfl<|OPS.store (vs := [I amt, I (costOf l on), .slice (some ⟨g51, 0, none⟩) l.length l.length, .slice (some ⟨g55, 0, none⟩) m m]) 3 _ rfl rfl rfl (j4 rfl) rfl (cA rfl) rfl rfl Hf rfl (by simp) ?_
  clear H Hf; intro w Hf
  have H := Hf.reidx (L' := [⟨g12, 174, [I m, .slice A l.length cap, .slice (some ⟨g51, 0, none⟩) l.length l.length]⟩, ⟨g51, 3, on.map I⟩, ⟨g55, 3, pots.map I⟩, ⟨g4, 123, [I m, .slice A l.length cap]⟩]) [0, 1, 2, 4] (by decide) rfl
  refine Y.z <| ⟨(H), ?_⟩
  refine Y.t 10 H rfl rfl (fun w H => Ev.asI rfl)<|Y.dn ?_
  exact ⟨Y.ag, rfl, Hf.reidx [3, 1, 2] (by decide) rfl⟩
 clear H
 rintro u w ⟨h9, H⟩
 refine WP.know (t := 9) h9 ?_
 refine WP.ret ⟨[_, _], ⟨(by exact x6 0 H rfl (j6 rfl) (j4 rfl) (by rfl) rfl), rfl, trivial⟩, ?_⟩
 refine ⟨most, ⟨rfl, hM1, hM2⟩, .inr ⟨hce, m, s, d, g51, g55, on, pots, hE, ⟨hfl, hop, hpl, hpi.zero, fun v hv => ⟨(hpi.bd v hv).1, hpi.le hv⟩⟩, ?_, H.drop Y.sc⟩⟩
 rw [hol, hpl]; rfl
end Go.Proofs.YtgcokllbophkkaaGreat.Flo
namespace Go.Proofs.YtgcokllbophkkaaGreat.Flo
open Go Go.W
def rowArcs (f : Int) : Int → List Int → List Arc
 | _, [] => []
 | g, x :: r => if 0 ≤ x then ⟨f, g, 65536, x⟩ :: rowArcs f (g + 1) r else rowArcs f (g + 1) r
def colArcs (g : Int) : Int → List Int → List (List Int) → List Arc
 | i, c :: C, r :: tm => ⟨0, i, c, 0⟩ :: (rowArcs i g r ++ colArcs g (i + 1) C tm)
 | _, _, _ => []
def brArcs (last : Int) : Int → List Int → List Arc
 | _, [] => []
 | g, d :: D => ⟨g, last, d, 0⟩ :: brArcs last (g + 1) D
def dn : List Int → (Nat → Int) → Int
 | [], _ => 0
 | d :: D, v => d * v 0 + dn D fun k => v (k + 1)
def tmAt (tm : List (List Int)) (j k : Nat) : Option Int := (tm[j]?).bind (·[k]?)
def jnh (w : Int) (tm : List (List Int)) (u v : Nat → Int) : Prop := ∀ j k x, tmAt tm j k = some x → 0 ≤ x → v k ≤ u j + w * x
def val (w : Int) (p : Int → Int) (a : Arc) : Int := w * a.cost + p a.f - p a.t
theorem jaP.cons {a : Arc} {l : List Arc} {on : List Int} (h : jaP (a :: l) on) : ∃ x r, on = x :: r ∧ 0 ≤ x ∧ x ≤ a.cap ∧ jaP l r := by
 match on, h.len with
 | x :: r, hl =>
  have h0 := h.bd 0 (by simp) (by simp)
  exact ⟨x, r, rfl, h0.1, h0.2, ⟨by simpa using hl, fun i hi hi2 => h.bd (i + 1) (by simpa using hi) (by simpa using hi2)⟩⟩
theorem jaP.app {b : List Arc} : ∀ {a : List Arc} {on : List Int}, jaP (a ++ b) on → ∃ x y, on = x ++ y ∧ jaP a x ∧ jaP b y
 | [], on, h => ⟨[], on, rfl, ⟨rfl, fun i hi => by simp at hi⟩, h⟩
 | c :: a, on, h => by
  obtain ⟨z, r, rfl, h1, h2, h3⟩ := jaP.cons (a := c) (l := a ++ b) h
  obtain ⟨x, y, rfl, h4, h5⟩ := jaP.app h3
  refine ⟨z :: x, y, rfl, ⟨by simp [h4.len], fun i hi hi2 => ?_⟩, h5⟩
  cases i with
  | zero => exact ⟨h1, h2⟩
  | succ i => exact h4.bd i (by simpa using hi) (by simpa using hi2)
theorem jaP.app' {a b : List Arc} {x y : List Int} (h1 : jaP a x) (h2 : jaP b y) : jaP (a ++ b) (x ++ y) := by
 refine ⟨by simp [h1.len, h2.len], fun i hi hi2 => ?_⟩
 have hl := h1.len
 by_cases h : i < a.length
 ·rw [List.getElem_append_left h, List.getElem_append_left (by omega)]; exact h1.bd i h (by omega)
 ·rw [List.getElem_append_right (by omega), List.getElem_append_right (by omega)]
  simp only [hl]
  exact h2.bd (i - a.length) (by simp at hi; omega) (by simp at hi2; omega)
theorem jcI (c : Arc → Int) (b : List Arc) (y : List Int) : ∀ (a : List Arc) (x : List Int), x.length = a.length → lin c (a ++ b) (x ++ y) = lin c a x + lin c b y
 | [], [], _ => by simp [lin]
 | a :: l, z :: x, h => by
  simp only [List.cons_append, lin]
  rw [jcI c b y l x (by simpa using h)]; omega
 | [], _ :: _, h => by simp at h
 | _ :: _, [], h => by simp at h
theorem jdj (p : Int → Int) : ∀ (l : List Arc) (on : List Int), y8 p l on = lin (fun a => p a.f - p a.t) l on
 | [], _ => rfl
 | _ :: _, [] => rfl
 | a :: l, x :: on => by simp only [y8, lin]; rw [jdj p l on]
theorem jht (w : Int) (p : Int → Int) : ∀ (l : List Arc) (on : List Int), lin (val w p) l on = w * costOf l on + y8 p l on
 | [], _ => by simp [lin, costOf, y8]
 | _ :: _, [] => by simp [lin, costOf, y8]
 | a :: l, x :: on => by
  simp only [lin, costOf, y8, jht w p l on, val]
  rw [show w * a.cost + p a.f - p a.t = w * a.cost + (p a.f - p a.t) by omega]
  rw [Int.mul_add x, Int.mul_add w, show x * (w * a.cost) = w * (x * a.cost) by rw [← Int.mul_assoc, Int.mul_comm x w, Int.mul_assoc]]
  omega
theorem jbp : ∀ {D : List Int} {u v : Nat → Int}, (∀ k, k < D.length → u k = v k) → dn D u = dn D v
 | [], _, _, _ => rfl
 | d :: D, u, v, h => by
  simp only [dn]
  rw [h 0 (by simp), jbp (D := D) (u := fun k => u (k + 1)) (v := fun k => v (k + 1)) fun k hk => h (k + 1) (by simpa using hk)]
theorem dn_le : ∀ {D : List Int} {u v : Nat → Int}, (∀ d ∈ D, 0 ≤ d) → (∀ k, k < D.length → u k ≤ v k) → dn D u ≤ dn D v
 | [], _, _, _, _ => Int.le_refl _
 | d :: D, u, v, hd, h => by
  simp only [dn]
  have h1 : d * u 0 ≤ d * v 0 := Int.mul_le_mul_of_nonneg_left (h 0 (by simp)) (hd d (by simp))
  have h2 := dn_le (D := D) (u := fun k => u (k + 1)) (v := fun k => v (k + 1)) (fun x hx => hd x (by simp [hx])) fun k hk => h (k + 1) (by simpa using hk)
  omega
theorem jkT : ∀ (D : List Int) (v : Nat → Int) (c : Int), dn D (fun k => v k - c) = dn D v - D.sum * c
 | [], _, _ => by simp [dn]
 | d :: D, v, c => by
  simp only [dn, jkT D (fun k => v (k + 1)) c, List.sum_cons, Int.mul_sub, Int.add_mul]
  omega
section
variable {w : Int} {p : Int → Int}
theorem jhA : ∀ (r : List Int) (f g : Int) (on : List Int), jaP (rowArcs f g r) on → (∀ (k : Nat) x, r[k]? = some x → 0 ≤ x → p (g + k) ≤ p f + w * x) → 0 ≤ lin (val w p) (rowArcs f g r) on
 | [], _, _, on, h, _ => by simp [rowArcs, lin]
 | x :: r, f, g, on, h, hd => by
  have hs : ∀ (k : Nat) y, r[k]? = some y → 0 ≤ y → p (g + 1 + k) ≤ p f + w * y := fun k y hk hy => by
   have := hd (k + 1) y (by simpa using hk) hy
   rw [show g + 1 + (k : Int) = g + ((k + 1 : Nat) : Int) by omega]; exact this
  unfold rowArcs at h ⊢
  split
  ·rename_i hx
   rw [if_pos hx] at h
   obtain ⟨z, q, rfl, h1, h2, h3⟩ := h.cons
   have h0 := hd 0 x rfl hx
   rw [show g + ((0 : Nat) : Int) = g by omega] at h0
   have := Int.mul_nonneg h1 (show 0 ≤ val w p ⟨f, g, 65536, x⟩ by simp only [val]; omega)
   have := jhA r f (g + 1) q h3 hs
   simp only [lin]; omega
  ·rename_i hx
   rw [if_neg hx] at h
   exact jhA r f (g + 1) on h hs
theorem jkA (hp0 : p 0 = 0) (g : Int) : ∀ (C : List Int) (tm : List (List Int)) (i : Int) (on : List Int), C.length = tm.length → jaP (colArcs g i C tm) on → (∀ j : Nat, j < C.length → 0 ≤ p (i + j)) →
  (∀ (j k : Nat) x, tmAt tm j k = some x → 0 ≤ x → p (g + k) ≤ p (i + j) + w * x) → -dn C (fun j => p (i + j)) ≤ lin (val w p) (colArcs g i C tm) on
 | [], _, _, _, _, _, _, _ => by simp [colArcs, lin, dn]
 | _ :: _, [], _, _, hl, _, _, _ => by simp at hl
 | c :: C, r :: tm, i, on, hl, h, hu, hd => by
  unfold colArcs at h ⊢
  obtain ⟨z, q, rfl, h1, h2, h3⟩ := h.cons
  obtain ⟨x, y, rfl, h4, h5⟩ := h3.app
  have hu0 := hu 0 (by simp)
  rw [show i + ((0 : Nat) : Int) = i by omega] at hu0
  have a1 := jhA (w := w) r i g x h4 (fun k t hk ht => by
   have := hd 0 k t (by simp [tmAt, hk]) ht
   rw [show i + ((0 : Nat) : Int) = i by omega] at this; exact this)
  have a2 := jkA hp0 g C tm (i + 1) y (by simpa using hl) h5 (fun j hj => by
   have := hu (j + 1) (by simpa using hj)
   rw [show i + 1 + (j : Int) = i + ((j + 1 : Nat) : Int) by omega]; exact this) (fun j k t hk ht => by
   have := hd (j + 1) k t (by simpa [tmAt] using hk) ht
   rw [show i + 1 + (j : Int) = i + ((j + 1 : Nat) : Int) by omega]; exact this)
  have e1 : dn C (fun k => p (i + ((k + 1 : Nat) : Int))) = dn C (fun j => p (i + 1 + j)) := jbp fun k _ => by rw [show i + 1 + (k : Int) = i + ((k + 1 : Nat) : Int) by omega]
  have a3 : z * p i ≤ c * p i := Int.mul_le_mul_of_nonneg_right h2 hu0
  simp only [lin, dn]
  rw [jcI _ _ _ _ _ h4.len, e1, show i + ((0 : Nat) : Int) = i by omega]
  have e2 : z * val w p ⟨0, i, c, 0⟩ = -(z * p i) := by simp only [val, hp0]; rw [show w * 0 + 0 - p i = -(p i) by omega, Int.mul_neg]
  rw [e2]; omega
theorem jnx (last : Int) : ∀ (D : List Int) (g : Int) (on : List Int), jaP (brArcs last g D) on → (∀ k : Nat, k < D.length → p (g + k) ≤ p last) → dn D (fun k => p (g + k) - p last) ≤ lin (val w p) (brArcs last g D) on
 | [], _, _, _, _ => by simp [brArcs, lin, dn]
 | d :: D, g, on, h, hv => by
  unfold brArcs at h ⊢
  obtain ⟨z, q, rfl, h1, h2, h3⟩ := h.cons
  have hv0 := hv 0 (by simp)
  rw [show g + ((0 : Nat) : Int) = g by omega] at hv0
  have a2 := jnx last D (g + 1) q h3 (fun k hk => by
   have := hv (k + 1) (by simpa using hk)
   rw [show g + 1 + (k : Int) = g + ((k + 1 : Nat) : Int) by omega]; exact this)
  have e1 : dn D (fun k => p (g + ((k + 1 : Nat) : Int)) - p last) = dn D (fun k => p (g + 1 + k) - p last) := jbp fun k _ => by rw [show g + 1 + (k : Int) = g + ((k + 1 : Nat) : Int) by omega]
  have h2 : z ≤ d := h2
  have a3 : z * (p last - p g) ≤ d * (p last - p g) := Int.mul_le_mul_of_nonneg_right h2 (by omega)
  simp only [lin, dn]
  rw [e1, show g + ((0 : Nat) : Int) = g by omega]
  have e2 : z * val w p ⟨g, last, d, 0⟩ = -(z * (p last - p g)) := by simp only [val]; rw [show w * 0 + p g - p last = -(p last - p g) by omega, Int.mul_neg]
  have e3 : d * (p g - p last) = -(d * (p last - p g)) := by rw [← Int.mul_neg]; congr 1; omega
  rw [e2, e3]; omega
end
def Two (l a b : List Arc) : Prop := l = a ++ b ∨ l = b ++ a
theorem Two.split {l a b : List Arc} {on : List Int} (h : Two l a b) (hv : jaP l on) : ∃ x y, jaP a x ∧ jaP b y ∧ ∀ c, lin c l on = lin c a x + lin c b y := by
 rcases h with rfl | rfl
 ·obtain ⟨x, y, rfl, h1, h2⟩ := hv.app
  exact ⟨x, y, h1, h2, fun c => jcI c b y a x h1.len⟩
 ·obtain ⟨x, y, rfl, h1, h2⟩ := hv.app
  exact ⟨y, x, h2, h1, fun c => by rw [jcI c a y b x h1.len, Int.add_comm]⟩
structure jd2 (n : Nat) (i0 g0 last : Int) (nc nb : Nat) : Prop where
 hi0 : 0 < i0
 hg0 : g0 = i0 + nc
 htop : g0 + nb ≤ n
 hl0 : 0 < last ∧ last < n
 hout : last < i0 ∨ g0 + nb ≤ last
def pot (i0 g0 last : Int) (V : Int) (u v : Nat → Int) : Int → Int := fun x => if x = 0 then 0 else if x = last then V else if x < g0 then u (x - i0).toNat else v (x - g0).toNat
section
variable {n : Nat} {i0 g0 last V : Int} {nc nb : Nat} {u v : Nat → Int}
theorem pot_0 : pot i0 g0 last V u v 0 = 0 := if_pos rfl
theorem jf4 (h : jd2 n i0 g0 last nc nb) : pot i0 g0 last V u v last = V := by
 have := h.hl0
 unfold pot; rw [if_neg (by omega), if_pos rfl]
theorem pot_u (h : jd2 n i0 g0 last nc nb) {j : Nat} (hj : j < nc) : pot i0 g0 last V u v (i0 + j) = u j := by
 have := h.hi0; have := h.hg0; have := h.hout
 unfold pot; rw [if_neg (by omega), if_neg (by omega), if_pos (by omega), show (i0 + (j : Int) - i0).toNat = j by omega]
theorem pot_v (h : jd2 n i0 g0 last nc nb) {k : Nat} (hk : k < nb) : pot i0 g0 last V u v (g0 + k) = v k := by
 have := h.hi0; have := h.hg0; have := h.hout
 unfold pot; rw [if_neg (by omega), if_neg (by omega), if_neg (by omega), show (g0 + (k : Int) - g0).toNat = k by omega]
end
theorem jh4 (v : Nat → Int) : ∀ n : Nat, ∃ V, ∀ k, k < n → v k ≤ V
 | 0 => ⟨0, fun k h => by omega⟩
 | n + 1 => by
  obtain ⟨V, hV⟩ := jh4 v n
  refine ⟨if V < v n then v n else V, fun k hk => ?_⟩
  by_cases h : k = n
  ·subst h; split <;> omega
  ·have := hV k (by omega); split <;> omega
structure Tab (C D : List Int) (tm : List (List Int)) : Prop where
 rows : C.length = tm.length
 cols : ∀ j k x, tmAt tm j k = some x → j < C.length ∧ k < D.length
 dpos : ∀ d ∈ D, 0 < d
theorem weak_price {n : Nat} {i0 g0 last : Int} {C D : List Int} {tm : List (List Int)} {l : List Arc} {on : List Int} {w : Int} {u v : Nat → Int} (hP : jd2 n i0 g0 last C.length D.length) (hT : Tab C D tm) (h2 : Two l (colArcs g0 i0 C tm) (brArcs last g0 D)) (hn : jar n l)
  (hf : IsFlow n l 0 last on D.sum) (hu : ∀ j, 0 ≤ u j) (hF : jnh w tm u v) : dn D v ≤ dn C u + w * costOf l on := by
 obtain ⟨V, hV⟩ := jh4 v D.length
 obtain ⟨x, y, hx, hy, hl⟩ := h2.split hf.v
 have hl0 := hP.hl0
 have h1 := hl (val w (pot i0 g0 last V u v))
 rw [jht, jcH hf hn ⟨by omega, by omega⟩ ⟨by omega, by omega⟩ (by omega), pot_0, jf4 hP] at h1
 have a1 := jkA (w := w) (p := pot i0 g0 last V u v) pot_0 g0 C tm i0 x hT.rows hx (fun j hj => by rw [pot_u hP hj]; exact hu j) (fun j k t hk ht => by
  obtain ⟨q1, q2⟩ := hT.cols j k t hk
  rw [pot_u hP q1, pot_v hP q2]; exact hF j k t hk ht)
 have a2 := jnx (w := w) (p := pot i0 g0 last V u v) last D g0 y hy (fun k hk => by rw [pot_v hP hk, jf4 hP]; exact hV k hk)
 rw [jbp (v := u) (fun k hk => pot_u hP hk)] at a1
 rw [jbp (v := fun k => v k - V) (fun k hk => by rw [pot_v hP hk, jf4 hP]), jkT] at a2
 have e : D.sum * (0 - V) = -(D.sum * V) := by rw [← Int.mul_neg]; congr 1; omega
 rw [e] at h1
 omega
end Go.Proofs.YtgcokllbophkkaaGreat.Flo
namespace Go.Proofs.YtgcokllbophkkaaGreat.Flo
open Go Go.W
theorem jnp (p : Int → Int) (a : Arc) : rc p a = val 1 p a := by simp [rc, val]
theorem OptPot.cons {p : Int → Int} {a : Arc} {l : List Arc} {x : Int} {on : List Int} (h : OptPot p (a :: l) (x :: on)) : (x < a.cap → 0 ≤ val 1 p a) ∧ (0 < x → val 1 p a ≤ 0) ∧ OptPot p l on := by
 have h0 := h 0 (by simp) (by simp)
 rw [← jnp]
 exact ⟨h0.1, h0.2, fun i hi hi2 => h (i + 1) (by simpa using hi) (by simpa using hi2)⟩
theorem OptPot.app {p : Int → Int} {b : List Arc} {y : List Int} : ∀ {a : List Arc} {x : List Int}, x.length = a.length → OptPot p (a ++ b) (x ++ y) → OptPot p a x ∧ OptPot p b y
 | [], [], _, h => ⟨fun i hi => by simp at hi, h⟩
 | c :: a, z :: x, hl, h => by
  obtain ⟨h1, h2, h3⟩ := OptPot.cons (a := c) (l := a ++ b) (x := z) (on := x ++ y) h
  obtain ⟨h4, h5⟩ := OptPot.app (by simpa using hl) h3
  refine ⟨fun i hi hi2 => ?_, h5⟩
  cases i with
  | zero => rw [← jnp] at h1 h2; exact ⟨h1, h2⟩
  | succ i => exact h4 i (by simpa using hi) (by simpa using hi2)
 | [], _ :: _, h, _ => by simp at h
 | _ :: _, [], h, _ => by simp at h
theorem Two.splitO {l a b : List Arc} {on : List Int} {p : Int → Int} (h : Two l a b) (hv : jaP l on) (ho : OptPot p l on) : ∃ x y, jaP a x ∧ jaP b y ∧ OptPot p a x ∧ OptPot p b y ∧ ∀ c, lin c l on = lin c a x + lin c b y := by
 rcases h with rfl | rfl
 ·obtain ⟨x, y, rfl, h1, h2⟩ := hv.app
  obtain ⟨o1, o2⟩ := OptPot.app h1.len ho
  exact ⟨x, y, h1, h2, o1, o2, fun c => jcI c b y a x h1.len⟩
 ·obtain ⟨x, y, rfl, h1, h2⟩ := hv.app
  obtain ⟨o1, o2⟩ := OptPot.app h1.len ho
  exact ⟨y, x, h2, h1, o2, o1, fun c => by rw [jcI c a y b x h1.len, Int.add_comm]⟩
section
variable {p : Int → Int}
theorem jhu : ∀ (r : List Int) (f g : Int) (on : List Int), jaP (rowArcs f g r) on → OptPot p (rowArcs f g r) on → lin (val 1 p) (rowArcs f g r) on ≤ 0
 | [], f, g, on, h, _ => by simp [rowArcs, lin]
 | x :: r, f, g, on, h, ho => by
  unfold rowArcs at h ho ⊢
  split
  ·rename_i hx
   rw [if_pos hx] at h ho
   obtain ⟨z, q, rfl, h1, h2, h3⟩ := h.cons
   obtain ⟨o1, o2, o3⟩ := ho.cons
   have := jhu r f (g + 1) q h3 o3
   have h4 : z * val 1 p ⟨f, g, 65536, x⟩ ≤ 0 := by
    rcases Int.lt_or_eq_of_le h1 with hz | hz
    ·exact Int.mul_nonpos_of_nonneg_of_nonpos h1 (o2 hz)
    ·rw [← hz]; simp
   simp only [lin]; omega
  ·rename_i hx
   rw [if_neg hx] at h ho
   exact jhu r f (g + 1) on h ho
theorem jjT (hp0 : p 0 = 0) (g : Int) : ∀ (C : List Int) (tm : List (List Int)) (i : Int) (on : List Int), C.length = tm.length → jaP (colArcs g i C tm) on → OptPot p (colArcs g i C tm) on → lin (val 1 p) (colArcs g i C tm) on ≤ -dn C (fun j => p (i + j))
 | [], _, _, _, _, _, _ => by simp [colArcs, lin, dn]
 | _ :: _, [], _, _, hl, _, _ => by simp at hl
 | c :: C, r :: tm, i, on, hl, h, ho => by
  unfold colArcs at h ho ⊢
  obtain ⟨z, q, rfl, h1, h2, h3⟩ := h.cons
  obtain ⟨o1, o2, o3⟩ := ho.cons
  obtain ⟨x, y, rfl, h4, h5⟩ := h3.app
  obtain ⟨o4, o5⟩ := OptPot.app h4.len o3
  have a1 := jhu r i g x h4 o4
  have a2 := jjT hp0 g C tm (i + 1) y (by simpa using hl) h5 o5
  have e1 : dn C (fun k => p (i + ((k + 1 : Nat) : Int))) = dn C (fun j => p (i + 1 + j)) := jbp fun k _ => by rw [show i + 1 + (k : Int) = i + ((k + 1 : Nat) : Int) by omega]
  have h2 : z ≤ c := h2
  have o1 : z < c → 0 ≤ val 1 p ⟨0, i, c, 0⟩ := o1
  have ev : val 1 p ⟨0, i, c, 0⟩ = -(p i) := by simp only [val, hp0]; omega
  rw [ev] at o1
  have a3 : c * p i ≤ z * p i := by
   rcases Int.lt_or_eq_of_le h2 with hz | hz
   ·have := o1 hz
    have h6 : 0 ≤ (c - z) * -(p i) := Int.mul_nonneg (by omega) (by omega)
    rw [Int.mul_neg, Int.sub_mul] at h6; omega
   ·rw [hz]; omega
  simp only [lin, dn]
  rw [jcI _ _ _ _ _ h4.len, e1, show i + ((0 : Nat) : Int) = i by omega, ev, Int.mul_neg]; omega
theorem jnq (last : Int) : ∀ (D : List Int) (g : Int) (on : List Int), jaP (brArcs last g D) on → OptPot p (brArcs last g D) on → lin (val 1 p) (brArcs last g D) on ≤ dn D (fun k => p (g + k) - p last)
 | [], _, _, _, _ => by simp [brArcs, lin, dn]
 | d :: D, g, on, h, ho => by
  unfold brArcs at h ho ⊢
  obtain ⟨z, q, rfl, h1, h2, h3⟩ := h.cons
  obtain ⟨o1, o2, o3⟩ := ho.cons
  have a2 := jnq last D (g + 1) q h3 o3
  have e1 : dn D (fun k => p (g + ((k + 1 : Nat) : Int)) - p last) = dn D (fun k => p (g + 1 + k) - p last) := jbp fun k _ => by rw [show g + 1 + (k : Int) = g + ((k + 1 : Nat) : Int) by omega]
  have h2 : z ≤ d := h2
  have o1 : z < d → 0 ≤ val 1 p ⟨g, last, d, 0⟩ := o1
  have ev : val 1 p ⟨g, last, d, 0⟩ = p g - p last := by simp only [val]; omega
  rw [ev] at o1
  have a3 : z * (p g - p last) ≤ d * (p g - p last) := by
   rcases Int.lt_or_eq_of_le h2 with hz | hz
   ·exact Int.mul_le_mul_of_nonneg_right h2 (o1 hz)
   ·rw [hz]; exact Int.le_refl _
  simp only [lin, dn]
  rw [e1, show g + ((0 : Nat) : Int) = g by omega, ev]; omega
end
theorem jgH {n : Nat} {i0 g0 last : Int} {C D : List Int} {tm : List (List Int)} {l : List Arc} {on : List Int} {p : Int → Int} (hP : jd2 n i0 g0 last C.length D.length) (hT : Tab C D tm) (h2 : Two l (colArcs g0 i0 C tm) (brArcs last g0 D)) (hn : jar n l)
  (hf : IsFlow n l 0 last on D.sum) (ho : OptPot p l on) (hp0 : p 0 = 0) : costOf l on ≤ dn D (fun k => p (g0 + k)) - dn C (fun j => p (i0 + j)) := by
 obtain ⟨x, y, hx, hy, o1, o2, hl⟩ := h2.splitO hf.v ho
 have hl0 := hP.hl0
 have h1 := hl (val 1 p)
 rw [jht, jcH hf hn ⟨by omega, by omega⟩ ⟨by omega, by omega⟩ (by omega), hp0] at h1
 have a1 := jjT hp0 g0 C tm i0 x hT.rows hx o1
 have a2 := jnq last D g0 y hy o2
 rw [jkT] at a2
 have e : D.sum * (0 - p last) = -(D.sum * p last) := by rw [← Int.mul_neg]; congr 1; omega
 rw [e] at h1
 omega
theorem jhL {f : Int} {a : Arc} : ∀ {r : List Int} {g : Int}, a ∈ rowArcs f g r → ∃ k : Nat, r[k]? = some a.cost ∧ 0 ≤ a.cost ∧ a.f = f ∧ a.t = g + k ∧ a.cap = 65536
 | [], _, h => by simp [rowArcs] at h
 | x :: r, g, h => by
  have hr : a ∈ rowArcs f (g + 1) r → ∃ k : Nat, (x :: r)[k]? = some a.cost ∧ 0 ≤ a.cost ∧ a.f = f ∧ a.t = g + k ∧ a.cap = 65536 := fun h => by
   obtain ⟨k, h1, h2, h3, h4, h5⟩ := jhL h
   exact ⟨k + 1, by simpa using h1, h2, h3, by rw [h4]; omega, h5⟩
  unfold rowArcs at h
  split at h
  ·rename_i hx
   rcases List.mem_cons.1 h with rfl | h
   ·exact ⟨0, rfl, hx, rfl, by simp, rfl⟩
   ·exact hr h
  ·exact hr h
theorem mem_row {f x : Int} : ∀ {r : List Int} {k : Nat} {g : Int}, r[k]? = some x → 0 ≤ x → (⟨f, g + k, 65536, x⟩ : Arc) ∈ rowArcs f g r
 | [], _, _, h, _ => by simp at h
 | y :: r, 0, g, h, hx => by
  simp at h; subst h
  unfold rowArcs; rw [if_pos hx]; simp
 | y :: r, k + 1, g, h, hx => by
  have := mem_row (f := f) (r := r) (k := k) (g := g + 1) (by simpa using h) hx
  rw [show g + 1 + (k : Int) = g + ((k + 1 : Nat) : Int) by omega] at this
  unfold rowArcs; split
  ·exact List.mem_cons_of_mem _ this
  ·exact this
theorem jhv {g : Int} {a : Arc} : ∀ {C : List Int} {tm : List (List Int)} {i : Int}, a ∈ colArcs g i C tm →
  (∃ j : Nat, C[j]? = some a.cap ∧ a.f = 0 ∧ a.t = i + j ∧ a.cost = 0) ∨ (∃ j k : Nat, tmAt tm j k = some a.cost ∧ 0 ≤ a.cost ∧ a.f = i + j ∧ a.t = g + k ∧ a.cap = 65536)
 | [], _, _, h => by simp [colArcs] at h
 | _ :: _, [], _, h => by simp [colArcs] at h
 | c :: C, r :: tm, i, h => by
  unfold colArcs at h
  rcases List.mem_cons.1 h with rfl | h
  ·exact .inl ⟨0, rfl, rfl, by simp, rfl⟩
  ·rcases List.mem_append.1 h with h | h
   ·obtain ⟨k, h1, h2, h3, h4, h5⟩ := jhL h
    exact .inr ⟨0, k, by simpa [tmAt] using h1, h2, by rw [h3]; simp, h4, h5⟩
   ·rcases jhv h with ⟨j, h1, h2, h3, h4⟩ | ⟨j, k, h1, h2, h3, h4, h5⟩
    ·exact .inl ⟨j + 1, by simpa using h1, h2, by rw [h3]; omega, h4⟩
    ·exact .inr ⟨j + 1, k, by simpa [tmAt] using h1, h2, by rw [h3]; omega, h4, h5⟩
theorem jh0 {g x : Int} : ∀ {C : List Int} {tm : List (List Int)} {i : Int} {j k : Nat}, C.length = tm.length → tmAt tm j k = some x → 0 ≤ x → (⟨i + j, g + k, 65536, x⟩ : Arc) ∈ colArcs g i C tm
 | [], [], _, _, _, _, h, _ => by simp [tmAt] at h
 | [], _ :: _, _, _, _, hl, _, _ => by simp at hl
 | _ :: _, [], _, _, _, hl, _, _ => by simp at hl
 | c :: C, r :: tm, i, 0, k, _, h, hx => by
  unfold colArcs
  have := mem_row (f := i) (g := g) (r := r) (k := k) (by simpa [tmAt] using h) hx
  rw [show i + ((0 : Nat) : Int) = i by omega]
  exact List.mem_cons_of_mem _ (List.mem_append_left _ this)
 | c :: C, r :: tm, i, j + 1, k, hl, h, hx => by
  unfold colArcs
  have := jh0 (g := g) (C := C) (tm := tm) (i := i + 1) (j := j) (k := k) (by simpa using hl) (by simpa [tmAt] using h) hx
  rw [show i + 1 + (j : Int) = i + ((j + 1 : Nat) : Int) by omega] at this
  exact List.mem_cons_of_mem _ (List.mem_append_right _ this)
theorem jnA {last : Int} {a : Arc} : ∀ {D : List Int} {g : Int}, a ∈ brArcs last g D → ∃ k : Nat, D[k]? = some a.cap ∧ a.f = g + k ∧ a.t = last ∧ a.cost = 0
 | [], _, h => by simp [brArcs] at h
 | d :: D, g, h => by
  unfold brArcs at h
  rcases List.mem_cons.1 h with rfl | h
  ·exact ⟨0, rfl, by simp, rfl, rfl⟩
  ·obtain ⟨k, h1, h2, h3, h4⟩ := jnA h
   exact ⟨k + 1, by simpa using h1, by rw [h2]; omega, h3, h4⟩
theorem Two.mem {l a b : List Arc} (h : Two l a b) {x : Arc} : x ∈ l ↔ x ∈ a ∨ x ∈ b := by
 rcases h with rfl | rfl
 ·exact List.mem_append
 ·rw [List.mem_append]; exact Or.comm
theorem jeK {i0 g0 last : Int} {C D : List Int} {tm : List (List Int)} {l : List Arc} (h2 : Two l (colArcs g0 i0 C tm) (brArcs last g0 D)) {a : Arc} (ha : a ∈ l) :
  (∃ j : Nat, C[j]? = some a.cap ∧ a.f = 0 ∧ a.t = i0 + j ∧ a.cost = 0) ∨ (∃ j k : Nat, tmAt tm j k = some a.cost ∧ 0 ≤ a.cost ∧ a.f = i0 + j ∧ a.t = g0 + k ∧ a.cap = 65536) ∨ (∃ k : Nat, D[k]? = some a.cap ∧ a.f = g0 + k ∧ a.t = last ∧ a.cost = 0) := by
 rcases h2.mem.1 ha with h | h
 ·rcases jhv h with h | h
  ·exact .inl h
  ·exact .inr (.inl h)
 ·exact .inr (.inr (jnA h))
theorem getl {α : Type} {l : List α} {j : Nat} {x : α} (h : l[j]? = some x) : j < l.length := (List.getElem?_eq_some_iff.1 h).1
theorem net_nodes {n : Nat} {i0 g0 last : Int} {C D : List Int} {tm : List (List Int)} {l : List Arc} (hP : jd2 n i0 g0 last C.length D.length) (hT : Tab C D tm) (h2 : Two l (colArcs g0 i0 C tm) (brArcs last g0 D)) : jar n l := fun a ha => by
 have := hP.hi0; have := hP.hg0; have := hP.htop; have := hP.hl0
 rcases jeK h2 ha with ⟨j, h1, h3, h4, _⟩ | ⟨j, k, h1, _, h3, h4, _⟩ | ⟨k, h1, h3, h4, _⟩
 ·have := getl h1; omega
 ·obtain ⟨q1, q2⟩ := hT.cols j k _ h1; omega
 ·have := getl h1; omega
theorem jgO (q : Int → Int) : ∀ (l : List Arc) (on : List Int), (∀ a ∈ l, 0 ≤ q a.f - q a.t) → jaP l on → 0 ≤ y8 q l on
 | [], _, _, _ => by simp [y8]
 | a :: l, on, hq, hv => by
  obtain ⟨x, r, rfl, h3, h4, h5⟩ := hv.cons
  have hx := Int.mul_nonneg h3 (hq a (by simp))
  have := jgO q l r (fun b hb => hq b (List.mem_cons_of_mem _ hb)) h5
  simp only [y8]; omega
theorem jgF (q : Int → Int) : ∀ (l : List Arc) (on : List Int), (∀ a ∈ l, 0 ≤ q a.f - q a.t) → jaP l on → ∀ i (h : i < l.length) (h2 : i < on.length), on[i] * (q l[i].f - q l[i].t) ≤ y8 q l on
 | [], _, _, _, i, h, _ => by simp at h
 | a :: l, on, hq, hv, i, h, h2 => by
  obtain ⟨x, r, rfl, h3, h4, h5⟩ := hv.cons
  have hx := Int.mul_nonneg h3 (hq a (by simp))
  have hql : ∀ b ∈ l, 0 ≤ q b.f - q b.t := fun b hb => hq b (List.mem_cons_of_mem _ hb)
  have hnn := jgO q l r hql h5
  cases i with
  | zero => simp only [y8, List.getElem_cons_zero]; omega
  | succ i =>
   have := jgF q l r hql h5 i (by simpa using h) (by simpa using h2)
   simp only [y8, List.getElem_cons_succ]; omega
theorem jlY {n : Nat} {i0 g0 last : Int} {C D : List Int} {tm : List (List Int)} {l : List Arc} {on : List Int} {p : Int → Int} (hP : jd2 n i0 g0 last C.length D.length) (hT : Tab C D tm) (h2 : Two l (colArcs g0 i0 C tm) (brArcs last g0 D)) (hn : jar n l)
  (hf : IsFlow n l 0 last on D.sum) (hD : D.sum < 65536) (ho : OptPot p l on) {j k : Nat} {x : Int} (hx : tmAt tm j k = some x) (hx0 : 0 ≤ x) : p (g0 + k) ≤ p (i0 + j) + x := by
 have b1 := hP.hi0; have b2 := hP.hg0; have b3 := hP.htop; have b4 := hP.hl0; have b5 := hP.hout
 obtain ⟨q1, q2⟩ := hT.cols j k _ hx
 have hm : (⟨i0 + j, g0 + k, 65536, x⟩ : Arc) ∈ l := h2.mem.2 (.inl (jh0 hT.rows hx hx0))
 obtain ⟨i, hi, he⟩ := List.mem_iff_getElem.1 hm
 have hi2 : i < on.length := by rw [hf.v.len]; exact hi
 have hS := hf.set hn ⟨by omega, by omega⟩ (S := fun y => y == 0 || (decide (i0 ≤ y) && decide (y < g0))) (by simp) (by simp; omega)
 have h3 := jgF (jgm fun y => y == 0 || (decide (i0 ≤ y) && decide (y < g0))) l on (fun a ha => by
  rcases jeK h2 ha with ⟨j, h1, h3, h4, _⟩ | ⟨j, k, h1, _, h3, h4, _⟩ | ⟨k, h1, h3, h4, _⟩
  ·have := getl h1
   rw [h3, h4]; simp [jgm, show i0 ≤ i0 + (j : Int) by omega, show i0 + (j : Int) < g0 by omega]
  ·obtain ⟨r1, r2⟩ := hT.cols j k _ h1
   rw [h3, h4]; simp [jgm, show i0 ≤ i0 + (j : Int) by omega, show i0 + (j : Int) < g0 by omega]; split <;> omega
  ·have := getl h1
   rw [h3, h4]
   have e1 : jgm (fun y => y == 0 || (decide (i0 ≤ y) && decide (y < g0))) (g0 + k) = 0 := by simp [jgm]; omega
   have e2 : jgm (fun y => y == 0 || (decide (i0 ≤ y) && decide (y < g0))) last = 0 := by simp [jgm]; omega
   rw [e1, e2]; omega) hf.v i hi hi2
 rw [hS, he] at h3
 have e1 : jgm (fun y => y == 0 || (decide (i0 ≤ y) && decide (y < g0))) (i0 + j) = 1 := by simp [jgm]; omega
 have e2 : jgm (fun y => y == 0 || (decide (i0 ≤ y) && decide (y < g0))) (g0 + k) = 0 := by simp [jgm]; omega
 simp only [e1, e2] at h3
 have h4 := (ho i hi hi2).1 (by rw [he]; simp only; omega)
 rw [he, rc] at h4
 simp only at h4
 omega
end Go.Proofs.YtgcokllbophkkaaGreat.Flo
namespace Go.Proofs.YtgcokllbophkkaaGreat.Flo
open Go Go.W
def Hall (C D : List Int) (tm : List (List Int)) : Prop := ∀ u v : Nat → Int, (∀ j, 0 ≤ u j) → jnh 0 tm u v → dn D v ≤ dn C u
theorem jdn (S : Int → Bool) (b : List Arc) : ∀ a : List Arc, jaI S (a ++ b) = jaI S a + jaI S b
 | [] => by simp [jaI]
 | c :: a => by simp only [List.cons_append, jaI, jdn S b a]; omega
theorem Two.cut {l a b : List Arc} (h : Two l a b) (S : Int → Bool) : jaI S l = jaI S a + jaI S b := by
 rcases h with rfl | rfl
 ·exact jdn S b a
 ·rw [jdn]; omega
theorem jkF (S : Int → Bool) : ∀ (l : List Arc), (∀ a ∈ l, 0 ≤ a.cap) → ∀ a ∈ l, S a.f = true → S a.t = false → a.cap ≤ jaI S l
 | [], _, a, h, _, _ => by cases h
 | b :: l, hc, a, h, h1, h2 => by
  have hl := jcF S l fun x hx => hc x (List.mem_cons_of_mem _ hx)
  simp only [jaI]
  rcases List.mem_cons.1 h with rfl | h
  ·rw [if_pos (by simp [h1, h2])]; omega
  ·have := jkF S l (fun x hx => hc x (List.mem_cons_of_mem _ hx)) a h h1 h2
   have := hc b (by simp)
   split <;> omega
theorem jih (S : Int → Bool) : ∀ (l : List Arc), (∀ a ∈ l, S a.t = true) → jaI S l = 0
 | [], _ => rfl
 | b :: l, h => by
  simp only [jaI]
  rw [jih S l fun x hx => h x (List.mem_cons_of_mem _ hx), if_neg (by simp [h b (by simp)])]; omega
theorem jiT (S : Int → Bool) (f : Int) : ∀ (r : List Int) (g : Int), 0 ≤ jaI S (rowArcs f g r) := fun r g => jcF S _ fun a ha => by
 obtain ⟨k, _, _, _, _, h⟩ := jhL ha
 omega
theorem jk0 (S : Int → Bool) (h0 : S 0 = true) (g : Int) : ∀ (C : List Int) (tm : List (List Int)) (i : Int), C.length = tm.length → dn C (fun j => if S (i + j) = true then 0 else 1) ≤ jaI S (colArcs g i C tm)
 | [], _, _, _ => by simp [colArcs, jaI, dn]
 | _ :: _, [], _, hl => by simp at hl
 | c :: C, r :: tm, i, hl => by
  have ih := jk0 S h0 g C tm (i + 1) (by simpa using hl)
  have := jiT S i r g
  have e1 : dn C (fun k => if S (i + ((k + 1 : Nat) : Int)) = true then 0 else 1) = dn C (fun j => if S (i + 1 + j) = true then 0 else 1) := jbp fun k _ => by rw [show i + 1 + (k : Int) = i + ((k + 1 : Nat) : Int) by omega]
  unfold colArcs
  simp only [jaI, jdn, dn]
  rw [e1, show i + ((0 : Nat) : Int) = i by omega, h0]
  cases hS : S i <;> simp <;> omega
theorem jjx (S : Int → Bool) (last : Int) (hl : S last = false) : ∀ (D : List Int) (g : Int), jaI S (brArcs last g D) = dn D (fun k => if S (g + k) = true then 1 else 0)
 | [], _ => rfl
 | d :: D, g => by
  have e1 : dn D (fun k => if S (g + ((k + 1 : Nat) : Int)) = true then 1 else 0) = dn D (fun j => if S (g + 1 + j) = true then 1 else 0) := jbp fun k _ => by rw [show g + 1 + (k : Int) = g + ((k + 1 : Nat) : Int) by omega]
  unfold brArcs
  simp only [jaI, dn]
  rw [jjx S last hl D (g + 1), e1, show g + ((0 : Nat) : Int) = g by omega, hl]
  cases hS : S g <;> simp
theorem dn_one (D : List Int) : dn D (fun _ => 1) = D.sum := by
 induction D with
 | nil => rfl
 | cons d D ih => simp only [dn, ih, List.sum_cons]; omega
theorem jm6 (D : List Int) (s : Nat → Bool) : dn D (fun k => if s k = true then 1 else 0) = D.sum - dn D (fun k => if s k = true then 0 else 1) := by
 induction D generalizing s with
 | nil => rfl
 | cons d D ih =>
  simp only [dn, List.sum_cons]
  rw [ih (fun k => s (k + 1))]
  cases s 0 <;> simp <;> omega
section
variable {n : Nat} {i0 g0 last : Int} {C D : List Int} {tm : List (List Int)} {l : List Arc} {most : Int}
theorem jm2 (hP : jd2 n i0 g0 last C.length D.length) (hT : Tab C D tm) (h2 : Two l (colArcs g0 i0 C tm) (brArcs last g0 D)) : jaI (fun y => y != last) l = D.sum := by
 have b1 := hP.hi0; have b2 := hP.hg0; have b3 := hP.htop; have b4 := hP.hl0; have b5 := hP.hout
 rw [h2.cut, jih, jjx _ _ (by simp), jbp (v := fun _ => 1) (fun k hk => by rw [if_pos (by simp; omega)]), dn_one]
 ·omega
 ·intro a ha
  rcases jhv ha with ⟨j, h1, h3, h4, _⟩ | ⟨j, k, h1, _, h3, h4, _⟩
  ·have := getl h1; rw [h4]; simp; omega
  ·obtain ⟨q1, q2⟩ := hT.cols j k _ h1; rw [h4]; simp; omega
theorem most_le (hP : jd2 n i0 g0 last C.length D.length) (hT : Tab C D tm) (h2 : Two l (colArcs g0 i0 C tm) (brArcs last g0 D)) {on : List Int} {amt : Int} (hf : IsFlow n l 0 last on amt) : amt ≤ D.sum := by
 have b1 := hP.hl0
 rw [← jm2 hP hT h2]
 exact jdf hf (net_nodes hP hT h2) ⟨by omega, by omega⟩ (by simp; omega) (by simp)
theorem most_hall (hP : jd2 n i0 g0 last C.length D.length) (hT : Tab C D tm) (hC : ∀ c ∈ C, 0 ≤ c) (hD : D.sum < 65536) (h2 : Two l (colArcs g0 i0 C tm) (brArcs last g0 D)) (hm : jcK n l 0 last most) : D.sum ≤ most ↔ Hall C D tm := by
 have b1 := hP.hi0; have b2 := hP.hg0; have b3 := hP.htop; have b4 := hP.hl0; have b5 := hP.hout
 have hn := net_nodes hP hT h2
 constructor
 ·intro h u v hu hF
  obtain ⟨⟨on, hf⟩, _⟩ := hm
  have := most_le hP hT h2 hf
  obtain rfl : most = D.sum := by omega
  have := weak_price hP hT h2 hn hf hu hF
  simpa using this
 ·intro hH
  obtain ⟨_, S, h0, hl, hc⟩ := hm
  refine Int.not_lt.1 fun hlt => ?_
  have hcaps : ∀ a ∈ l, 0 ≤ a.cap := fun a ha => by
   rcases jeK h2 ha with ⟨j, h1, h3, h4, _⟩ | ⟨j, k, h1, _, h3, h4, h5⟩ | ⟨k, h1, h3, h4, _⟩
   ·exact hC _ (List.mem_of_getElem? h1)
   ·omega
   ·exact Int.le_of_lt (hT.dpos _ (List.mem_of_getElem? h1))
  have hF : jnh 0 tm (fun j => if S (i0 + j) = true then 0 else 1) (fun k => if S (g0 + k) = true then 0 else 1) := fun j k x hx hx0 => by
   have hm : (⟨i0 + j, g0 + k, 65536, x⟩ : Arc) ∈ l := h2.mem.2 (.inl (jh0 hT.rows hx hx0))
   show (if S (g0 + k) = true then (0 : Int) else 1) ≤ (if S (i0 + j) = true then 0 else 1) + 0 * x
   cases h1 : S (i0 + j) with
   | false => simp; split <;> omega
   | true =>
    cases h3 : S (g0 + k) with
    | true => simp
    | false =>
     have := jkF S l hcaps _ hm h1 h3
     simp only at this; omega
  have h3 := hH _ _ (fun j => by split <;> omega) hF
  have h4 := jk0 S h0 g0 C tm i0 hT.rows
  have h5 := jjx S last hl D g0
  have h6 := jm6 D (fun k => S (g0 + k))
  have h7 := h2.cut S
  omega
end
def ren (last last' sh : Int) (x : Int) : Int := if x = 0 then 0 else if x = last then last' else x + sh
def renA (last last' sh : Int) (a : Arc) : Arc := ⟨ren last last' sh a.f, ren last last' sh a.t, a.cap, a.cost⟩
theorem jc0 {p q : Int → Int} : ∀ {l : List Arc} {on : List Int}, (∀ a ∈ l, p a.f = q a.f ∧ p a.t = q a.t) → y8 p l on = y8 q l on
 | [], _, _ => rfl
 | _ :: _, [], _ => rfl
 | a :: l, x :: on, h => by
  obtain ⟨h1, h2⟩ := h a (by simp)
  simp only [y8]
  rw [h1, h2, jc0 fun b hb => h b (List.mem_cons_of_mem _ hb)]
theorem jhb (last last' sh : Int) (c c' : Arc → Int) (h : ∀ a, c (renA last last' sh a) = c' a) : ∀ (l : List Arc) (on : List Int), lin c (l.map (renA last last' sh)) on = lin c' l on
 | [], _ => rfl
 | _ :: _, [] => rfl
 | a :: l, x :: on => by simp only [List.map_cons, lin, h, jhb last last' sh c c' h l on]
theorem jaP.ren {last last' sh : Int} {l : List Arc} {on : List Int} (h : jaP l on) : jaP (l.map (renA last last' sh)) on :=
 ⟨by simp [h.len], fun i hi hi2 => by simpa [renA] using h.bd i (by simpa using hi) hi2⟩
theorem jkH {last last' sh f f' g g' : Int} (hf : ren last last' sh f = f') : ∀ (r : List Int) (g : Int), (∀ k : Nat, k < r.length → ren last last' sh (g + k) = g + k + sh) → rowArcs f' (g + sh) r = (rowArcs f g r).map (renA last last' sh)
 | [], _, _ => rfl
 | x :: r, g, h => by
  have h0 := h 0 (by simp)
  rw [show g + ((0 : Nat) : Int) = g by omega] at h0
  have ih := jkH (g := g) (g' := g') hf r (g + 1) (fun k hk => by
   have := h (k + 1) (by simpa using hk)
   rw [show g + 1 + (k : Int) = g + ((k + 1 : Nat) : Int) by omega]; exact this)
  rw [show g + 1 + sh = g + sh + 1 by omega] at ih
  unfold rowArcs
  split
  ·rw [List.map_cons, ih]; simp [renA, hf, h0]
  ·exact ih
theorem col_ren {last last' sh g : Int} {nb : Nat} (hg : ∀ k : Nat, k < nb → ren last last' sh (g + k) = g + k + sh) : ∀ (C : List Int) (tm : List (List Int)) (i : Int), (∀ r ∈ tm, r.length ≤ nb) → (∀ j : Nat, j < C.length → ren last last' sh (i + j) = i + j + sh) →
  colArcs (g + sh) (i + sh) C tm = (colArcs g i C tm).map (renA last last' sh)
 | [], _, _, _, _ => rfl
 | _ :: _, [], _, _, _ => rfl
 | c :: C, r :: tm, i, hr, h => by
  have h0 := h 0 (by simp)
  rw [show i + ((0 : Nat) : Int) = i by omega] at h0
  have ih := col_ren hg C tm (i + 1) (fun q hq => hr q (by simp [hq])) (fun j hj => by
   have := h (j + 1) (by simpa using hj)
   rw [show i + 1 + (j : Int) = i + ((j + 1 : Nat) : Int) by omega]; exact this)
  rw [show i + 1 + sh = i + sh + 1 by omega] at ih
  have h1 := jkH (g := g) (g' := g) (f := i) (f' := i + sh) h0 r g (fun k hk => hg k (by have := hr r (by simp); omega))
  unfold colArcs
  rw [List.map_cons, List.map_append, ih, h1]
  have hr0 : ren last last' sh 0 = 0 := if_pos rfl
  simp only [renA, h0, hr0]
theorem br_ren {last last' sh : Int} (hl : last ≠ 0) : ∀ (D : List Int) (g : Int), (∀ k : Nat, k < D.length → ren last last' sh (g + k) = g + k + sh) → brArcs last' (g + sh) D = (brArcs last g D).map (renA last last' sh)
 | [], _, _ => rfl
 | d :: D, g, h => by
  have h0 := h 0 (by simp)
  rw [show g + ((0 : Nat) : Int) = g by omega] at h0
  have ih := br_ren hl D (g + 1) (fun k hk => by
   have := h (k + 1) (by simpa using hk)
   rw [show g + 1 + (k : Int) = g + ((k + 1 : Nat) : Int) by omega]; exact this)
  rw [show g + 1 + sh = g + sh + 1 by omega] at ih
  unfold brArcs
  rw [List.map_cons, ih]
  have hrl : ren last last' sh last = last' := by unfold ren; rw [if_neg hl, if_pos rfl]
  simp only [renA, h0, hrl]
theorem flow_ren {n n' : Nat} {last last' sh : Int} {l l' a b : List Arc} {on : List Int} {amt : Int} (h2 : Two l a b) (h2' : Two l' (a.map (renA last last' sh)) (b.map (renA last last' sh))) (hn : jar n l) (hl : last ≠ 0) (hl' : last' ≠ 0)
  (hinj : ∀ x y : Int, 0 ≤ x → x < n → 0 ≤ y → y < n → ren last last' sh x = ren last last' sh y → x = y) (hf : IsFlow n l 0 last on amt) (hnl : 0 ≤ last ∧ last < n) (hn0 : (0 : Int) < n) : ∃ on', IsFlow n' l' 0 last' on' amt ∧ costOf l' on' = costOf l on := by
 obtain ⟨x, y, hx, hy, hs⟩ := h2.split hf.v
 obtain ⟨on', hv', hs'⟩ : ∃ on', jaP l' on' ∧ ∀ c, lin c l' on' = lin c (a.map (renA last last' sh)) x + lin c (b.map (renA last last' sh)) y := by
  rcases h2' with rfl | rfl
  ·exact ⟨x ++ y, jaP.app' hx.ren hy.ren, fun c => jcI c _ _ _ _ (by simp [hx.len])⟩
  ·exact ⟨y ++ x, jaP.app' hy.ren hx.ren, fun c => by rw [jcI c _ _ _ _ (by simp [hy.len]), Int.add_comm]⟩
 have hlin : ∀ c c' : Arc → Int, (∀ a, c (renA last last' sh a) = c' a) → lin c l' on' = lin c' l on := fun c c' h => by
  rw [hs', hs, jhb _ _ _ c c' h, jhb _ _ _ c c' h]
 have hnet : ∀ p : Int → Int, y8 p l' on' = y8 (fun z => p (ren last last' sh z)) l on := fun p => by
  rw [jdj, jdj]
  exact hlin _ _ fun a => rfl
 have hr0 : ren last last' sh 0 = 0 := if_pos rfl
 have hrl : ren last last' sh last = last' := by unfold ren; rw [if_neg hl, if_pos rfl]
 have hind : ∀ z : Int, 0 ≤ z → z < n → y8 (ind (ren last last' sh z)) l' on' = y8 (ind z) l on := fun z h0 h1 => by
  rw [hnet]
  refine jc0 fun a ha => ?_
  obtain ⟨⟨f0, f1⟩, t0, t1⟩ := hn a ha
  refine ⟨?_, ?_⟩
  ·unfold ind
   by_cases h : a.f = z
   ·rw [h]; simp
   ·rw [if_neg h, if_neg fun he => h (hinj _ _ f0 f1 h0 h1 he)]
  ·unfold ind
   by_cases h : a.t = z
   ·rw [h]; simp
   ·rw [if_neg h, if_neg fun he => h (hinj _ _ t0 t1 h0 h1 he)]
 refine ⟨on', ⟨hv', fun u _ _ hu0 hul => ?_, ?_⟩, ?_⟩
 ·by_cases h : ∃ z : Int, 0 ≤ z ∧ z < n ∧ ren last last' sh z = u
  ·obtain ⟨z, h0, h1, rfl⟩ := h
   rw [hind z h0 h1]
   exact hf.cons z h0 h1 (fun he => hu0 (by rw [he, hr0])) (fun he => hul (by rw [he, hrl]))
  ·rw [hnet]
   have : y8 (fun z => ind u (ren last last' sh z)) l on = y8 (fun _ => 0) l on := jc0 fun a ha => by
    obtain ⟨⟨f0, f1⟩, t0, t1⟩ := hn a ha
    exact ⟨if_neg fun he => h ⟨_, f0, f1, he⟩, if_neg fun he => h ⟨_, t0, t1, he⟩⟩
   rw [this, jdj]
   have : ∀ (l : List Arc) (on : List Int), lin (fun _ => (0 : Int) - 0) l on = 0 := fun l => by
    induction l with
    | nil => intro on; simp [lin]
    | cons a l ih => intro on; cases on <;> simp [lin] at ih ⊢; exact ih _
   exact this l on
 ·have := hind 0 (Int.le_refl _) hn0
  rw [hr0] at this
  rw [this]; exact hf.amt
 ·rw [jev, jev]
  exact hlin _ _ fun a => rfl
end Go.Proofs.YtgcokllbophkkaaGreat.Flo
