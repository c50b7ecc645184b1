/-
 Walk: residue.each, for functions whose effect is told by a relation.
-/
import Derived.Test.YtgjfjbphngamgaaT15
import Derived.Test.YtgjfjbphngamgaaNest
set_option linter.all false
namespace Go.Proofs.Ytgjfjbphngamgaa.Flo
open Go Go.W Go.RowKit
set_option maxHeartbeats 1000000 in
theorem flowEach2 {σ : Type} (Lv : σ → List Blk) (gs : List Nat) (I1 I2 : Nat → σ → Prop) (fv : Nat) (caps : List Value)
  (n : Int) (A B : Option Addr) (l : List Arc) (on : List Int) (cap cap2 : Nat) (s0 : σ) (w0 : World)
  (hfun : funT fv = true)
  (hz : ArcsAt w0 A l) (hA : l ≠ [] → Off A gs) (ho : IntsAt w0 B on) (hB : on ≠ [] → Off B gs) (hlen : on.length = l.length) (hl : l.length ≤ 4096)
  (hcap : ∀ i (h : i < l.length), -1000000 ≤ l[i].cap ∧ l[i].cap ≤ 1000000 ∧ -1000000 ≤ l[i].cost ∧ l[i].cost ≤ 1000000) (hon : ∀ i (h : i < on.length), -1000000000 ≤ on[i] ∧ on[i] ≤ 1000000000)
  (hgs : (Lv s0).map (·.g) = gs)
  (hvF : ∀ i (h : i < l.length) (h2 : i < on.length) s w, I1 i s → on[i] < l[i].cap → SH w0 gs w (Lv s) → SH w ((Lv s).map (·.g)) w (Lv s) → Calls Try.prog fv ([I l[i].f, I l[i].t, I i, I (l[i].cap - on[i]), I l[i].cost, .bool true] ++ caps).toArray w fun e w' => e = .returned (.tuple #[]) ∧ ∃ s', I2 i s' ∧ SH w ((Lv s).map (·.g)) w' (Lv s'))
  (hsF : ∀ i (h : i < l.length) (h2 : i < on.length) s, I1 i s → ¬ on[i] < l[i].cap → I2 i s)
  (hvB : ∀ i (h : i < l.length) (h2 : i < on.length) s w, I2 i s → 0 < on[i] → SH w0 gs w (Lv s) → SH w ((Lv s).map (·.g)) w (Lv s) → Calls Try.prog fv ([I l[i].t, I l[i].f, I i, I on[i], I (-l[i].cost), .bool false] ++ caps).toArray w fun e w' => e = .returned (.tuple #[]) ∧ ∃ s', I1 (i + 1) s' ∧ SH w ((Lv s).map (·.g)) w' (Lv s'))
  (hsB : ∀ i (h : i < l.length) (h2 : i < on.length) s, I2 i s → ¬ 0 < on[i] → I1 (i + 1) s)
  (hs0 : I1 0 s0) (H0 : SH w0 gs w0 (Lv s0)) :
  Calls Try.prog 81 #[.agg #[I n, .slice A l.length cap, .slice B on.length cap2], .func (.func fv) #[] caps.toArray] w0 fun e w' => e = .returned (.tuple #[]) ∧ ∃ s', I1 l.length s' ∧ SH w0 gs w' (Lv s') := by
 have H := H0
 refine Calls.ofWP Try.func81 rfl Try.results81 Try.ntmps81 rfl <| Y.qr <| Y.bx (cA rfl) H ?_
 clear H; intro g2 w H
 refine Y.z <| Y.qr <| Y.v (Y.f rfl rfl) <| Y.v (Y.f rfl rfl) <| Y.v (Y.l H 0 rfl rfl rfl) <| Y.v (Y.n rfl) <| Y.v (Y.m rfl) <| Y.z <| WP.block <| WP.loop [4, 5, 10, 11, 12, 13, 14, 15, 16, 17, 18, 19, 20, 21, 22, 23, 24, 25, 26, 27, 28, 29, 30, 31, 32, 33, 34, 35, 36, 37, 38, 39, 40, 41, 42, 43, 44, 45, 46, 47, 48, 49, 50, 51, 52, 53, 54, 55, 56, 57, 58, 59, 60, 61] (fun k e w' => ∃ (j : Nat) (s : σ), j + k = l.length ∧ e 10 = .int .i64 j ∧ SH w0 gs w' ([⟨g2, 111, [I n, .slice A l.length cap, .slice B on.length cap2]⟩] ++ Lv s) ∧ I1 j s) (l.length) (⟨0, s0, by omega, rfl, H, hs0⟩) ?_
 clear H
 rintro k u w ⟨j, s, hk, h10, H, hi⟩
 refine WP.know (t := 10) h10 <| Y.qr <| Y.v (Ev.lss rfl rfl) <| Y.z <| Y.q ?_
 refine WP.cond rfl (fun hc2 => ?_) (fun hc2 => ?_)
 ·have hlt : j < l.length := by simpa using hc2
  have hlt2 : j < on.length := by omega
  obtain ⟨b, o, rfl, hc⟩ := hz j hlt
  obtain ⟨b2, o2, rfl, hx⟩ := ho j hlt2
  have hbS : b ∉ gs := hA (List.ne_nil_of_length_pos (by omega)) b o rfl
  have hbS2 : b2 ∉ gs := hB (List.ne_nil_of_length_pos (by omega)) b2 o2 rfl
  have hc' := cellsAt_shS H hbS hc
  have hcb := hcap j hlt
  have hob := hon j hlt2
  refine Y.k <| Y.q <| WP.block <| Y.qr <| Y.v (Y.m rfl) <| Y.v (Y.X rfl rfl rfl rfl rfl) <| Y.v (by (change Ev _ _ _ _ (Op.load 96 (Operand.tmp 13)) _; exact Ev.loadN (arcCells l[j]) (agg_run rfl) (size_run rfl) rfl hc')) <| Y.al H rfl rfl ?_
  clear H; intro g5 w H
  refine OPS.val rfl rfl rfl (Ev.asI rfl) ?_
  refine OPS.store 0 _ rfl rfl rfl (size_run rfl) rfl (cA rfl) rfl rfl H rfl (by simp) ?_
  clear H; intro w H; try simp only [List.set_cons_zero, List.set_cons_succ, putL, Nat.zero_add] at H
  refine Y.z <| Y.q <| Y.q <| WP.rstill mixed (by kernel_rfl) H ?_
  clear H; intro w hbw4 H
  refine Y.v (Y.f rfl rfl) <| Y.v (Y.l H 1 rfl rfl rfl) <| Y.v (Y.m rfl) <| Y.v (Y.x rfl rfl rfl rfl) <| Y.v (Y.c (H.ldS (by assumption) (by assumption)) rfl) ?_
  refine Y.v (Y.f rfl rfl) <| Y.v (Y.l H 0 rfl rfl rfl) <| Y.v (Ev.lss rfl rfl) <| OPS.nil_s ?_
  refine WP.cond rfl (fun hc4 => ?_) (fun hc4 => ?_)
  ·refine WP.rtail 16 mixed (by kernel_rfl) H ?_
   clear H; intro w hbw5 H
   refine Y.v (Ev.mvF rfl) <| Y.v (Y.f rfl rfl) <| Y.v (Y.l H 0 rfl rfl rfl) <| Y.v (Y.f rfl rfl) <| Y.v (Y.l H 0 rfl rfl rfl) <| Y.v (Y.m rfl) <| Y.v (Y.f rfl rfl) <| Y.v (Y.l H 0 rfl rfl rfl) <| Y.v (Y.f rfl rfl) <| Y.v (Y.l H 1 rfl rfl rfl) <| Y.v (Y.m rfl) <| Y.v (Y.x rfl rfl rfl rfl) <| Y.v (Y.c (H.ldS (by assumption) (by assumption)) rfl) ?_
   refine Y.v (Y.s rfl rfl) <| Y.v (Y.f rfl rfl) <| Y.v (Y.l H 0 rfl rfl rfl) <| OPS.nil_s <| OPS.call (d := some 39) rfl rfl rfl (EvC.clos rfl (fun_run (by assumption))) (hvF j hlt hlt2 s _ hi (by simpa using hc4) (H.drop ((List.sublist_cons_self _ _).trans (List.sublist_cons_self _ _))) (H.restart ((List.sublist_cons_self _ _).trans (List.sublist_cons_self _ _)))) ?_
   rintro _ w ⟨rfl, s1, hi1, Hc⟩
   refine ⟨_, rfl, ?_⟩
   replace H := SH.call (L1 := [⟨g5, 96, arcCells l[j]⟩, ⟨g2, 111, [I n, .slice (some ⟨b, o, none⟩) l.length cap, .slice (some ⟨b2, o2, none⟩) on.length cap2]⟩]) H Hc
   clear Hc hi
   refine Y.z <| Y.qr <| Y.v (Y.f rfl rfl) <| Y.v (Y.l H 1 rfl rfl rfl) <| Y.v (Y.m rfl) <| Y.v (Y.x rfl rfl rfl rfl) <| Y.v (Y.c (H.ldS (by assumption) (by assumption)) rfl) ?_
   refine Y.v (Ev.gtr rfl rfl) <| Y.z ?_
   refine WP.cond rfl (fun hc6 => ?_) (fun hc6 => ?_)
   ·refine WP.rtail 14 mixed (by kernel_rfl) H ?_
    clear H; intro w hbw7 H
    refine Y.v (Ev.mvF rfl) <| Y.v (Y.f rfl rfl) <| Y.v (Y.l H 0 rfl rfl rfl) <| Y.v (Y.f rfl rfl) <| Y.v (Y.l H 0 rfl rfl rfl) <| Y.v (Y.m rfl) <| Y.v (Y.f rfl rfl) <| Y.v (Y.l H 1 rfl rfl rfl) <| Y.v (Y.m rfl) <| Y.v (Y.x rfl rfl rfl rfl) <| Y.v (Y.c (H.ldS (by assumption) (by assumption)) rfl) ?_
    refine Y.v (Y.f rfl rfl) <| Y.v (Y.l H 0 rfl rfl rfl) <| Y.v (Ev.neg rfl (by unfold fits; omega)) <| OPS.nil_s <| OPS.call (d := some 60) rfl rfl rfl (EvC.clos rfl (fun_run (by assumption))) (hvB j hlt hlt2 s1 _ hi1 (by simpa using hc6) (H.drop ((List.sublist_cons_self _ _).trans (List.sublist_cons_self _ _))) (H.restart ((List.sublist_cons_self _ _).trans (List.sublist_cons_self _ _)))) ?_
    rintro _ w ⟨rfl, s2, hi2, Hc⟩
    refine ⟨_, rfl, ?_⟩
    replace H := SH.call (L1 := [⟨g5, 96, arcCells l[j]⟩, ⟨g2, 111, [I n, .slice (some ⟨b, o, none⟩) l.length cap, .slice (some ⟨b2, o2, none⟩) on.length cap2]⟩]) H Hc
    clear Hc
    refine Y.z <| Y.r <| Y.v (Y.p rfl rfl) <| Y.v (Y.m rfl) <| Y.z ?_
    exact ⟨(by repeat (first | exact Agree.refl _ _ | exact Agree.mix _ _ _ | refine Agree.upd rfl ?_ | refine Agree.mix2 rfl ?_)), k - 1, by omega, j + 1, _, by omega, rfl, H.drop (List.sublist_cons_self _ _), hi2⟩
   have hi2 := hsB j hlt hlt2 s1 hi1 (by simpa using hc6)
   refine Y.k <| Y.r <| Y.v (Y.p rfl rfl) <| Y.v (Y.m rfl) <| Y.z ?_
   exact ⟨(by repeat (first | exact Agree.refl _ _ | exact Agree.mix _ _ _ | refine Agree.upd rfl ?_ | refine Agree.mix2 rfl ?_)), k - 1, by omega, j + 1, _, by omega, rfl, H.drop (List.sublist_cons_self _ _), hi2⟩
  have hi1 := hsF j hlt hlt2 s hi (by simpa using hc4)
  clear hi
  generalize hss : s = s1 at H hi1
  refine Y.k <| Y.qr <| Y.v (Y.f rfl rfl) <| Y.v (Y.l H 1 rfl rfl rfl) <| Y.v (Y.m rfl) <| Y.v (Y.x rfl rfl rfl rfl) <| Y.v (Y.c (H.ldS (by assumption) (by assumption)) rfl) ?_
  refine Y.v (Ev.gtr rfl rfl) <| Y.z ?_
  refine WP.cond rfl (fun hc6 => ?_) (fun hc6 => ?_)
  ·refine WP.rtail 14 mixed (by kernel_rfl) H ?_
   clear H; intro w hbw7 H
   refine Y.v (Ev.mvF rfl) <| Y.v (Y.f rfl rfl) <| Y.v (Y.l H 0 rfl rfl rfl) <| Y.v (Y.f rfl rfl) <| Y.v (Y.l H 0 rfl rfl rfl) <| Y.v (Y.m rfl) <| Y.v (Y.f rfl rfl) <| Y.v (Y.l H 1 rfl rfl rfl) <| Y.v (Y.m rfl) <| Y.v (Y.x rfl rfl rfl rfl) <| Y.v (Y.c (H.ldS (by assumption) (by assumption)) rfl) ?_
   refine Y.v (Y.f rfl rfl) <| Y.v (Y.l H 0 rfl rfl rfl) <| Y.v (Ev.neg rfl (by unfold fits; omega)) <| OPS.nil_s <| OPS.call (d := some 60) rfl rfl rfl (EvC.clos rfl (fun_run (by assumption))) (hvB j hlt hlt2 s1 _ hi1 (by simpa using hc6) (H.drop ((List.sublist_cons_self _ _).trans (List.sublist_cons_self _ _))) (H.restart ((List.sublist_cons_self _ _).trans (List.sublist_cons_self _ _)))) ?_
   rintro _ w ⟨rfl, s2, hi2, Hc⟩
   refine ⟨_, rfl, ?_⟩
   replace H := SH.call (L1 := [⟨g5, 96, arcCells l[j]⟩, ⟨g2, 111, [I n, .slice (some ⟨b, o, none⟩) l.length cap, .slice (some ⟨b2, o2, none⟩) on.length cap2]⟩]) H Hc
   clear Hc
   refine Y.z <| Y.r <| Y.v (Y.p rfl rfl) <| Y.v (Y.m rfl) <| Y.z ?_
   exact ⟨(by repeat (first | exact Agree.refl _ _ | exact Agree.mix _ _ _ | refine Agree.upd rfl ?_ | refine Agree.mix2 rfl ?_)), k - 1, by omega, j + 1, _, by omega, rfl, H.drop (List.sublist_cons_self _ _), hi2⟩
  have hi2 := hsB j hlt hlt2 s1 hi1 (by simpa using hc6)
  refine Y.k <| Y.r <| Y.v (Y.p rfl rfl) <| Y.v (Y.m rfl) <| Y.z ?_
  exact ⟨(by repeat (first | exact Agree.refl _ _ | exact Agree.mix _ _ _ | refine Agree.upd rfl ?_ | refine Agree.mix2 rfl ?_)), k - 1, by omega, j + 1, _, by omega, rfl, H.drop (List.sublist_cons_self _ _), hi2⟩
 refine WP.exit <| XB.hit <| ⟨_, rfl, ?_⟩
 have : j = l.length := by simp at hc2; omega
 subst this
 exact ⟨rfl, s, hi, H.drop (List.sublist_cons_self _ _)⟩
end Go.Proofs.Ytgjfjbphngamgaa.Flo

/-
 Walks: the priority queue of labels: less, before, swap, Len, Peek.
-/
set_option linter.all false
namespace Go.Proofs.Ytgjfjbphngamgaa.Flo
open Go Go.W Go.RowKit
structure Ent where
 node : Int
 dist : Int
 n : Int
instance : Inhabited Ent := ⟨⟨0, 0, 0⟩⟩
def labCells (x : Ent) : List Value := [I x.node, I x.dist]
def entCells (x : Ent) : List Value := [I x.node, I x.dist, I x.n]
theorem entCells_len (x : Ent) : (entCells x).length = 3 := rfl
/-- the cells of the queue itself -/
def qCells (A : Option Addr) (n cap : Nat) (p : Int) : List Value := [.func (.func 78) #[] #[], .slice A n cap, I p]
def entLt (x y : Ent) : Bool := decide (x.dist < y.dist) || (!decide (y.dist < x.dist) && decide (x.n < y.n))
theorem qLess (a d b d2 : Int) (w0 : World) :
  Calls Try.prog 78 #[.agg #[I a, I d], .agg #[I b, I d2]] w0 fun e w' => e = .returned (.bool (decide (d < d2))) ∧ Below w0.heap.size w0 w' := by
 have H := SH.refl w0
 refine Calls.ofWP Try.func78 rfl Try.results78 Try.ntmps78 rfl <| Y.qr <| Y.bx (cA rfl) H ?_
 clear H; intro g2 w H
 refine Y.bx (cA rfl) H ?_
 clear H; intro g3 w H
 refine Y.v (Ev.asB rfl) <| Y.z <| Y.qr <| Y.v (Y.f rfl rfl) <| Y.v (Y.l H 1 rfl rfl rfl) <| Y.v (Y.f rfl rfl) <| Y.v (Y.l H 0 rfl rfl rfl) <| Y.v (Ev.lss rfl rfl) <| Y.v (Ev.asB rfl) <| Y.z ?_
 refine WP.ret ⟨_, rfl, ?_⟩
 exact ⟨rfl, H.below⟩
theorem qLen (gq n cap : Nat) (A : Option Addr) (p : Int) (w0 : World) (hq : cellsAt w0 gq 0 (qCells A n cap p)) :
  Calls Try.prog 104 #[.pointer (some ⟨gq, 0, none⟩)] w0 fun e w' => e = .returned (I n) ∧ Below w0.heap.size w0 w' := by
 have H := SH.refl w0
 obtain ⟨q0, q1, q2, _⟩ := hq
 refine Calls.ofWP Try.func104 rfl Try.results104 Try.ntmps104 rfl <| Y.qr <| Y.v (Ev.asI rfl) <| Y.z <| Y.q <| Y.qr <| Y.v (Ev.mvP rfl) <| Y.v (Ev.eqlPn Try.runUnderlying143 rfl rfl) <| Y.z <| WP.cond_f rfl ?_
 refine Y.k <| Y.qr <| Y.v (Ev.mvP rfl) <| Y.v (Ev.nilCheckP rfl) <| Y.v (Y.f rfl rfl) <| Y.v (Y.c (H.ld0 (by assumption)) rfl) ?_
 refine Y.v (Y.n rfl) <| Y.v (Ev.asI rfl) <| Y.z ?_
 refine WP.ret ⟨_, rfl, ?_⟩
 exact ⟨rfl, H.below⟩
theorem qBefore (gq cap i k : Nat) (A : Option Addr) (p : Int) (h : List Ent) (w0 : World) (hq : cellsAt w0 gq 0 (qCells A h.length cap p)) (hr : RowsAt 3 entCells w0 A h) (hi : i < h.length) (hk : k < h.length) :
  Calls Try.prog 95 #[.pointer (some ⟨gq, 0, none⟩), I i, I k] w0 fun e w' => e = .returned (.bool (entLt h[i] h[k])) ∧ Below w0.heap.size w0 w' := by
 have H := SH.refl w0
 obtain ⟨q0, q1, q2, _⟩ := hq
 obtain ⟨b, o, rfl, hx⟩ := hr i hi
 obtain ⟨_, _, e1, hy⟩ := hr k hk
 cases e1
 refine Calls.ofWP Try.func95 rfl Try.results95 Try.ntmps95 rfl <| Y.qr <| Y.v (Ev.asB rfl) <| Y.z <| Y.q ?_
 refine WP.rheldC [7, 8, 9, 10, 11, 12, 13, 14, 15, 16, 17, 18, 19, 20, 21, 22] (fun u w' => ∃ g7 g8, u 7 = .pointer (some ⟨g7, 0, none⟩) ∧ u 8 = .pointer (some ⟨g8, 0, none⟩) ∧ SH w0 [] w' [⟨g8, 172, entCells h[k]⟩, ⟨g7, 172, entCells h[i]⟩]) mixed H ?_ ?_
 ·clear H; intro w hbw1 H
  refine Y.t 0 H rfl rfl (fun w H => Ev.mvP rfl) <| Y.t 1 H rfl rfl (fun w H => Ev.nilCheckP rfl) <| Y.t 2 H rfl rfl (fun w H => Y.f rfl rfl) <| Y.t 3 H rfl rfl (fun w H => Y.c (H.ld0 (by assumption)) rfl) ?_
  refine Y.t 4 H rfl rfl (fun w H => Y.m rfl) <| Y.t 5 H rfl rfl (fun w H => Y.X rfl rfl rfl rfl rfl) ?_
  refine OPH.take 6 rfl rfl rfl rfl (by kernel_rfl) (by kernel_rfl) (by kernel_rfl) rfl (by exact H) (fun w H => (by (change Ev _ _ _ _ (Op.load 172 (Operand.tmp 14)) _; refine Ev.loadN (b := b) (o := o + i * 3) (entCells h[i]) ?_ ?_ ?_ (cellsAt_sh H hx); exact agg_run rfl; exact size_run rfl; rfl))) ?_
  refine Y.t 7 H rfl rfl (fun w H => Ev.mvP rfl) <| Y.t 8 H rfl rfl (fun w H => Ev.nilCheckP rfl) <| Y.t 9 H rfl rfl (fun w H => Y.f rfl rfl) <| Y.t 10 H rfl rfl (fun w H => Y.c (H.ld0 (by assumption)) rfl) ?_
  refine Y.t 11 H rfl rfl (fun w H => Y.m rfl) <| Y.t 12 H rfl rfl (fun w H => Y.X rfl rfl rfl rfl rfl) ?_
  refine OPH.take 13 rfl rfl rfl rfl (by kernel_rfl) (by kernel_rfl) (by kernel_rfl) rfl (by exact H) (fun w H => (by (change Ev _ _ _ _ (Op.load 172 (Operand.tmp 21)) _; refine Ev.loadN (b := b) (o := o + k * 3) (entCells h[k]) ?_ ?_ ?_ (cellsAt_sh H hy); exact agg_run rfl; exact size_run rfl; rfl))) ?_
  refine Y.A [14, 15] rfl ⟨⟨_, rfl, ?_⟩, ⟨_, rfl, ?_⟩, trivial⟩
  ·refine Y.al H rfl rfl ?_
   clear H; intro g7 w H
   refine Y.z <| ⟨(H.drop (List.sublist_cons_self _ _)), ?_⟩
   refine Y.A [15] rfl ⟨⟨_, rfl, ?_⟩, trivial⟩
   refine Y.al H rfl rfl ?_
   clear H; intro g8 w H
   refine Y.z <| ⟨(H.drop ((List.sublist_cons_self _ _).trans (List.sublist_cons_self _ _))), ?_⟩
   refine Y.A [16] rfl ⟨⟨_, rfl, ?_⟩, trivial⟩
   refine OPS.store 1 _ rfl rfl rfl (size_run rfl) rfl (cA rfl) rfl rfl H rfl (by simp) ?_
   clear H; intro w H; try simp only [List.set_cons_zero, List.set_cons_succ, putL, Nat.zero_add] at H
   refine Y.z <| ⟨(H.drop ((List.sublist_cons_self _ _).trans (List.sublist_cons_self _ _))), ?_⟩
   refine Y.A [17] rfl ⟨⟨_, rfl, ?_⟩, trivial⟩
   refine OPS.store 0 _ rfl rfl rfl (size_run rfl) rfl (cA rfl) rfl rfl H rfl (by simp) ?_
   clear H; intro w H; try simp only [List.set_cons_zero, List.set_cons_succ, putL, Nat.zero_add] at H
   refine Y.z <| ⟨(H.drop ((List.sublist_cons_self _ _).trans (List.sublist_cons_self _ _))), ?_⟩
   refine OPH.done (by kernel_rfl) ?_
   exact ⟨(by repeat (first | exact Agree.refl _ _ | exact Agree.mix _ _ _ | refine Agree.upd rfl ?_ | refine Agree.mix2 rfl ?_)), g7, g8, rfl, rfl, H⟩
  ·refine Y.al H rfl rfl ?_
   clear H; intro g8 w H
   refine Y.z <| ⟨(H.drop (List.sublist_cons_self _ _)), ?_⟩
   refine Y.A [14] rfl ⟨⟨_, rfl, ?_⟩, trivial⟩
   refine Y.al H rfl rfl ?_
   clear H; intro g7 w H
   refine Y.z <| ⟨(H.drop ((List.sublist_cons_self _ _).trans (List.sublist_cons_self _ _))), ?_⟩
   refine Y.A [16] rfl ⟨⟨_, rfl, ?_⟩, trivial⟩
   refine OPS.store 0 _ rfl rfl rfl (size_run rfl) rfl (cA rfl) rfl rfl H rfl (by simp) ?_
   clear H; intro w H; try simp only [List.set_cons_zero, List.set_cons_succ, putL, Nat.zero_add] at H
   refine Y.z <| ⟨(H.drop ((List.sublist_cons_self _ _).trans (List.sublist_cons_self _ _))), ?_⟩
   refine Y.A [17] rfl ⟨⟨_, rfl, ?_⟩, trivial⟩
   refine OPS.store 1 _ rfl rfl rfl (size_run rfl) rfl (cA rfl) rfl rfl H rfl (by simp) ?_
   clear H; intro w H; try simp only [List.set_cons_zero, List.set_cons_succ, putL, Nat.zero_add] at H
   refine Y.z <| ⟨(H.drop ((List.sublist_cons_self _ _).trans (List.sublist_cons_self _ _))), ?_⟩
   refine OPH.done (by kernel_rfl) ?_
   exact ⟨(by repeat (first | exact Agree.refl _ _ | exact Agree.mix _ _ _ | refine Agree.upd rfl ?_ | refine Agree.mix2 rfl ?_)), g7, g8, rfl, rfl, H.reidx [1, 0] (by decide) rfl⟩
 clear H
 rintro u w ⟨g7, g8, h7, h8, H⟩
 refine WP.know (t := 7) h7 (WP.know (t := 8) h8 ?_)
 refine Y.q <| WP.block <| Y.q <| WP.rquiet mixed (by kernel_rfl) H ?_
 clear H; intro w hbw2 H
 refine Y.v (Ev.mvP rfl) <| Y.v (Ev.nilCheckP rfl) <| Y.v (Y.f rfl rfl) <| Y.v (Y.c (H.ld0 (by assumption)) rfl) ?_
 refine Y.v (Y.f rfl rfl) <| Y.v (by (change Ev _ _ _ _ (Op.load 146 (Operand.tmp 28)) _; exact Ev.loadN (labCells h[i]) (agg_run rfl) (size_run rfl) rfl (cellsAt_own H 1 rfl _ 0 (fun j hj => by match j with | 0 => rfl | 1 => rfl)))) <| Y.v (Y.f rfl rfl) <| Y.v (by (change Ev _ _ _ _ (Op.load 146 (Operand.tmp 30)) _; exact Ev.loadN (labCells h[k]) (agg_run rfl) (size_run rfl) rfl (cellsAt_own H 0 rfl _ 0 (fun j hj => by match j with | 0 => rfl | 1 => rfl)))) <| OPS.callq rfl rfl rfl (EvC.clos rfl (fun_run rfl)) (fun w2 hb2 => qLess _ _ _ _ _) ?_
 refine Y.v (Ev.asB rfl) <| OPS.nilq H ?_
 clear H; intro w hbx2 H
 refine WP.cond rfl (fun hc2 => ?_) (fun hc2 => ?_)
 ·refine Y.qr <| Y.v (Ev.asB rfl) <| Y.z ?_
  refine WP.ret ⟨_, rfl, ?_⟩
  exact ⟨congrArg (fun b => Ending.returned (Bo b)) (show true = entLt h[i] h[k] from by simp only [entLt, hc2]; rfl), H.below⟩
 refine Y.q <| WP.rquiet mixed (by kernel_rfl) H ?_
 clear H; intro w hbw4 H
 refine Y.v (Ev.mvP rfl) <| Y.v (Ev.nilCheckP rfl) <| Y.v (Y.f rfl rfl) <| Y.v (Y.c (H.ld0 (by assumption)) rfl) ?_
 refine Y.v (Y.f rfl rfl) <| Y.v (by (change Ev _ _ _ _ (Op.load 146 (Operand.tmp 38)) _; exact Ev.loadN (labCells h[k]) (agg_run rfl) (size_run rfl) rfl (cellsAt_own H 0 rfl _ 0 (fun j hj => by match j with | 0 => rfl | 1 => rfl)))) <| Y.v (Y.f rfl rfl) <| Y.v (by (change Ev _ _ _ _ (Op.load 146 (Operand.tmp 40)) _; exact Ev.loadN (labCells h[i]) (agg_run rfl) (size_run rfl) rfl (cellsAt_own H 1 rfl _ 0 (fun j hj => by match j with | 0 => rfl | 1 => rfl)))) <| OPS.callq rfl rfl rfl (EvC.clos rfl (fun_run rfl)) (fun w2 hb2 => qLess _ _ _ _ _) ?_
 refine Y.v (Ev.asB rfl) <| OPS.nilq H ?_
 clear H; intro w hbx4 H
 refine WP.cond rfl (fun hc4 => ?_) (fun hc4 => ?_)
 ·refine Y.qr <| Y.v (Ev.asB rfl) <| Y.z ?_
  refine WP.ret ⟨_, rfl, ?_⟩
  exact ⟨congrArg (fun b => Ending.returned (Bo b)) (show false = entLt h[i] h[k] from by simp only [entLt, hc2, hc4]; rfl), H.below⟩
 refine Y.k <| Y.qr <| Y.v (Y.f rfl rfl) <| Y.v (Y.l H 1 rfl rfl rfl) <| Y.v (Y.f rfl rfl) <| Y.v (Y.l H 0 rfl rfl rfl) <| Y.v (Ev.lss rfl rfl) <| Y.v (Ev.asB rfl) <| Y.z ?_
 refine WP.ret ⟨_, rfl, ?_⟩
 exact ⟨congrArg (fun b => Ending.returned (Bo b)) (show decide (h[i].n < h[k].n) = entLt h[i] h[k] from by simp only [entLt, hc2, hc4]; simp), H.below⟩
end Go.Proofs.Ytgjfjbphngamgaa.Flo

/-
 Walk: the priority queue of labels: swap.
-/
set_option linter.all false
namespace Go.Proofs.Ytgjfjbphngamgaa.Flo
open Go Go.W Go.RowKit
theorem putL_append : ∀ (vs a b : List Value) (k : Nat), k + vs.length ≤ a.length → putL (a ++ b) k vs = putL a k vs ++ b
 | [], _, _, _, _ => rfl
 | v :: vs, a, b, k, h => by
  simp only [List.length_cons] at h
  simp only [putL]
  rw [List.set_append_left _ _ (by omega)]
  exact putL_append vs (a.set k v) b (k + 1) (by simp; omega)
theorem putL_ents (h : List Ent) (sp : List Value) (k : Nat) (x : Ent) (hk : k < h.length) : putL (h.flatMap entCells ++ sp) (0 + k * 3) (entCells x) = (h.set k x).flatMap entCells ++ sp := by
 rw [Nat.zero_add, putL_append _ _ _ _ (by rw [rows_length entCells_len, entCells_len]; omega), putL_rows entCells_len h k x hk]
def qBlks (gq ga : Nat) (h : List Ent) (cap : Nat) (p : Int) (sp : List Value) : List Blk := [⟨gq, 170, qCells (some ⟨ga, 0, none⟩) h.length cap p⟩, ⟨ga, 172, h.flatMap entCells ++ sp⟩]
set_option maxHeartbeats 400000 in
theorem qSwap (gq ga cap i k : Nat) (p : Int) (h : List Ent) (sp : List Value) (w0 : World) (hi : i < h.length) (hk : k < h.length) (H0 : SH w0 [gq, ga] w0 (qBlks gq ga h cap p sp)) :
  Calls Try.prog 96 #[.pointer (some ⟨gq, 0, none⟩), I i, I k] w0 fun e w' => e = .returned (.tuple #[]) ∧ SH w0 [gq, ga] w' (qBlks gq ga (swapL h i k) cap p sp) := by
 have Hf := H0
 unfold qBlks qCells at Hf
 have H := Hf.reidx (L' := [⟨gq, 170, qCells (some ⟨ga, 0, none⟩) h.length cap p⟩]) [0] (by decide) rfl
 unfold qCells at H
 refine Calls.ofWP Try.func96 rfl Try.results96 Try.ntmps96 rfl ?_
 refine WP.rheldC [6, 7, 8, 9, 10, 11, 12, 13, 14, 15, 16, 17, 18, 19, 20, 21, 22, 23, 24, 25, 26, 27, 28, 29, 30, 31] (fun _ w' => SH w0 [gq, ga] w' (qBlks gq ga (swapL h i k) cap p sp)) mixed H ?_ ?_
 ·clear H; intro w hbw0 H
  refine Y.t 0 H rfl rfl (fun w H => Ev.mvP rfl) <| Y.t 1 H rfl rfl (fun w H => Ev.nilCheckP rfl) <| Y.t 2 H rfl rfl (fun w H => Y.f rfl rfl) <| Y.t 3 H rfl rfl (fun w H => Y.l H 0 rfl rfl rfl) <| Y.t 4 H rfl rfl (fun w H => Y.m rfl) <| Y.t 5 H rfl rfl (fun w H => Ev.mvP rfl) <| Y.t 6 H rfl rfl (fun w H => Ev.nilCheckP rfl) <| Y.t 7 H rfl rfl (fun w H => Y.f rfl rfl) <| Y.t 8 H rfl rfl (fun w H => Y.l H 0 rfl rfl rfl) <| Y.t 9 H rfl rfl (fun w H => Y.m rfl) <| Y.t 10 H rfl rfl (fun w H => Ev.mvP rfl) <| Y.t 11 H rfl rfl (fun w H => Ev.nilCheckP rfl) <| Y.t 12 H rfl rfl (fun w H => Y.f rfl rfl) <| Y.t 13 H rfl rfl (fun w H => Y.l H 0 rfl rfl rfl) <| Y.t 14 H rfl rfl (fun w H => Y.m rfl) <| Y.t 15 H rfl rfl (fun w H => Y.X rfl rfl rfl rfl rfl) <| Y.t 17 H rfl rfl (fun w H => Ev.mvP rfl) <| Y.t 18 H rfl rfl (fun w H => Ev.nilCheckP rfl) <| Y.t 19 H rfl rfl (fun w H => Y.f rfl rfl) <| Y.t 20 H rfl rfl (fun w H => Y.l H 0 rfl rfl rfl) <| Y.t 21 H rfl rfl (fun w H => Y.m rfl) <| Y.t 22 H rfl rfl (fun w H => Y.X rfl rfl rfl rfl rfl) ?_
  refine Y.A [16, 23] rfl ⟨⟨_, rfl, ?_⟩, ⟨_, rfl, ?_⟩, trivial⟩
  ·try replace Hf := Hf.toBelow hbw0
   have hx := rowsOwn entCells_len Hf 1 rfl k hk
   obtain ⟨_, _, e1, hx⟩ := hx
   cases e1
   refine OPS.val rfl rfl rfl (by refine Ev.loadN (b := ga) (o := 0 + k * 3) (entCells h[k]) ?_ ?_ ?_ hx; exact agg_run rfl; exact size_run rfl; rfl) ?_
   refine Y.z <| ⟨(H), ?_⟩
   refine Y.A [23] rfl ⟨⟨_, rfl, ?_⟩, trivial⟩
   try replace Hf := Hf.toBelow hbw0
   have hx := rowsOwn entCells_len Hf 1 rfl i hi
   obtain ⟨_, _, e1, hx⟩ := hx
   cases e1
   refine OPS.val rfl rfl rfl (by refine Ev.loadN (b := ga) (o := 0 + i * 3) (entCells h[i]) ?_ ?_ ?_ hx; exact agg_run rfl; exact size_run rfl; rfl) ?_
   refine Y.z <| ⟨(H), ?_⟩
   refine Y.t 24 H rfl rfl (fun w H => Y.X rfl rfl rfl rfl rfl) ?_
   refine Y.A [25] rfl ⟨⟨_, rfl, ?_⟩, trivial⟩
   refine OPS.store 1 _ rfl rfl rfl (size_run rfl) rfl (cA rfl) rfl rfl Hf rfl (by rw [List.length_append, rows_length entCells_len]; omega) ?_
   clear H Hf; intro w Hf
   replace Hf : SH w0 [gq, ga] w [⟨gq, 170, qCells (some ⟨ga, 0, none⟩) h.length cap p⟩, ⟨ga, 172, putL (h.flatMap entCells ++ sp) (0 + i * 3) (entCells h[k])⟩] := Hf
   rw [putL_ents h sp i _ hi] at Hf
   have H := Hf.reidx (L' := [⟨gq, 170, qCells (some ⟨ga, 0, none⟩) h.length cap p⟩]) [0] (by decide) rfl
   unfold qCells at H
   refine Y.z <| ⟨(H), ?_⟩
   refine Y.t 26 H rfl rfl (fun w H => Y.X rfl rfl rfl rfl rfl) ?_
   refine Y.A [27] rfl ⟨⟨_, rfl, ?_⟩, trivial⟩
   refine OPS.store 1 _ rfl rfl rfl (size_run rfl) rfl (cA rfl) rfl rfl Hf rfl (by rw [List.length_append, rows_length entCells_len, List.length_set]; omega) ?_
   clear H Hf; intro w Hf
   replace Hf : SH w0 [gq, ga] w [⟨gq, 170, qCells (some ⟨ga, 0, none⟩) h.length cap p⟩, ⟨ga, 172, putL ((h.set i h[k]).flatMap entCells ++ sp) (0 + k * 3) (entCells h[i])⟩] := Hf
   rw [putL_ents _ sp k _ (by rw [List.length_set]; exact hk)] at Hf
   have H := Hf.reidx (L' := [⟨gq, 170, qCells (some ⟨ga, 0, none⟩) h.length cap p⟩]) [0] (by decide) rfl
   unfold qCells at H
   have hsw : swapL h i k = (h.set i h[k]).set k h[i] := by simp [swapL, hi, hk]
   refine Y.z <| ⟨(H), ?_⟩
   refine OPH.done (by kernel_rfl) ?_
   exact ⟨(by repeat (first | exact Agree.refl _ _ | exact Agree.mix _ _ _ | refine Agree.upd rfl ?_ | refine Agree.mix2 rfl ?_)), by rw [qBlks, swapL_length, hsw]; exact Hf⟩
  ·try replace Hf := Hf.toBelow hbw0
   have hx := rowsOwn entCells_len Hf 1 rfl i hi
   obtain ⟨_, _, e1, hx⟩ := hx
   cases e1
   refine OPS.val rfl rfl rfl (by refine Ev.loadN (b := ga) (o := 0 + i * 3) (entCells h[i]) ?_ ?_ ?_ hx; exact agg_run rfl; exact size_run rfl; rfl) ?_
   refine Y.z <| ⟨(H), ?_⟩
   refine Y.A [16] rfl ⟨⟨_, rfl, ?_⟩, trivial⟩
   try replace Hf := Hf.toBelow hbw0
   have hx := rowsOwn entCells_len Hf 1 rfl k hk
   obtain ⟨_, _, e1, hx⟩ := hx
   cases e1
   refine OPS.val rfl rfl rfl (by refine Ev.loadN (b := ga) (o := 0 + k * 3) (entCells h[k]) ?_ ?_ ?_ hx; exact agg_run rfl; exact size_run rfl; rfl) ?_
   refine Y.z <| ⟨(H), ?_⟩
   refine Y.t 24 H rfl rfl (fun w H => Y.X rfl rfl rfl rfl rfl) ?_
   refine Y.A [25] rfl ⟨⟨_, rfl, ?_⟩, trivial⟩
   refine OPS.store 1 _ rfl rfl rfl (size_run rfl) rfl (cA rfl) rfl rfl Hf rfl (by rw [List.length_append, rows_length entCells_len]; omega) ?_
   clear H Hf; intro w Hf
   replace Hf : SH w0 [gq, ga] w [⟨gq, 170, qCells (some ⟨ga, 0, none⟩) h.length cap p⟩, ⟨ga, 172, putL (h.flatMap entCells ++ sp) (0 + i * 3) (entCells h[k])⟩] := Hf
   rw [putL_ents h sp i _ hi] at Hf
   have H := Hf.reidx (L' := [⟨gq, 170, qCells (some ⟨ga, 0, none⟩) h.length cap p⟩]) [0] (by decide) rfl
   unfold qCells at H
   refine Y.z <| ⟨(H), ?_⟩
   refine Y.t 26 H rfl rfl (fun w H => Y.X rfl rfl rfl rfl rfl) ?_
   refine Y.A [27] rfl ⟨⟨_, rfl, ?_⟩, trivial⟩
   refine OPS.store 1 _ rfl rfl rfl (size_run rfl) rfl (cA rfl) rfl rfl Hf rfl (by rw [List.length_append, rows_length entCells_len, List.length_set]; omega) ?_
   clear H Hf; intro w Hf
   replace Hf : SH w0 [gq, ga] w [⟨gq, 170, qCells (some ⟨ga, 0, none⟩) h.length cap p⟩, ⟨ga, 172, putL ((h.set i h[k]).flatMap entCells ++ sp) (0 + k * 3) (entCells h[i])⟩] := Hf
   rw [putL_ents _ sp k _ (by rw [List.length_set]; exact hk)] at Hf
   have H := Hf.reidx (L' := [⟨gq, 170, qCells (some ⟨ga, 0, none⟩) h.length cap p⟩]) [0] (by decide) rfl
   unfold qCells at H
   have hsw : swapL h i k = (h.set i h[k]).set k h[i] := by simp [swapL, hi, hk]
   refine Y.z <| ⟨(H), ?_⟩
   refine OPH.done (by kernel_rfl) ?_
   exact ⟨(by repeat (first | exact Agree.refl _ _ | exact Agree.mix _ _ _ | refine Agree.upd rfl ?_ | refine Agree.mix2 rfl ?_)), by rw [qBlks, swapL_length, hsw]; exact Hf⟩
 clear H
 rintro u w H
 refine ⟨_, rfl, ?_⟩
 exact ⟨rfl, H⟩
end Go.Proofs.Ytgjfjbphngamgaa.Flo

/-
 Walks: the priority queue of labels: Peek, New.
-/
set_option linter.all false
namespace Go.Proofs.Ytgjfjbphngamgaa.Flo
open Go Go.W Go.RowKit
def labV (x : Ent) : Value := .agg (labCells x).toArray
def peekV (h : List Ent) : Value := .tuple #[labV (h.headD ⟨0, 0, 0⟩), .bool (!h.isEmpty)]
theorem qPeek (gq cap : Nat) (A : Option Addr) (p : Int) (h : List Ent) (w0 : World) (hq : cellsAt w0 gq 0 (qCells A h.length cap p)) (hr : RowsAt 3 entCells w0 A h) :
  Calls Try.prog 97 #[.pointer (some ⟨gq, 0, none⟩)] w0 fun e w' => e = .returned (peekV h) ∧ Below w0.heap.size w0 w' := by
 have H := SH.refl w0
 have hq' := hq
 obtain ⟨q0, q1, q2, _⟩ := hq
 refine Calls.ofWPc Try.func97 rfl Try.results97 Try.ntmps97 rfl <| Y.qr <| Y.al H rfl rfl ?_
 clear H; intro g2 w H
 refine Y.v (Ev.asB rfl) <| Y.z <| Y.q <| Y.qr <| Y.v (Ev.mvP rfl) <| OPS.call (d := some 6) rfl rfl rfl (EvC.func (fun_run rfl)) (qLen gq h.length cap A p _ (cellsAt_sh H hq')) ?_
 rintro _ w ⟨rfl, hb⟩
 refine ⟨_, rfl, ?_⟩
 replace H := H.toBelow hb; clear hb
 refine Y.v (Ev.eql rfl rfl) <| Y.z ?_
 refine WP.cond rfl (fun hc1 => ?_) (fun hc1 => ?_)
 ·have h0 : h = [] := List.length_eq_zero_iff.1 (by simp at hc1; simp [hc1])
  subst h0
  refine Y.qr <| Y.al H rfl rfl ?_
  clear H; intro g4 w H
  refine Y.z <| Y.qr <| Y.v (Y.o H 0 rfl rfl) <| Y.st 1 H rfl (cA rfl) rfl ?_
  clear H; intro w H; try simp only [List.set_cons_zero, List.set_cons_succ, putL, Nat.zero_add] at H
  refine Y.v (Ev.asB rfl) <| Y.z ?_
  refine WP.ret ⟨[_, _], ⟨(by exact resCellA 1 H rfl (agg_run rfl) (size_run rfl) (by rfl) rfl), rfl, trivial⟩, ?_⟩
  exact ⟨rfl, H.below⟩
 have hpos : 0 < h.length := by simp at hc1; exact List.length_pos_iff.2 hc1
 obtain ⟨b, o, rfl, hx⟩ := hr 0 hpos
 obtain ⟨x, l, rfl⟩ : ∃ x l, h = x :: l := by
  cases h with
  | nil => exact absurd hpos (by simp)
  | cons x l => exact ⟨x, l, rfl⟩
 obtain ⟨x0, x1, x2, _⟩ := cellsAt_sh H hx
 refine Y.k <| Y.qr <| Y.v (Ev.mvP rfl) <| Y.v (Ev.nilCheckP rfl) <| Y.v (Y.f rfl rfl) <| Y.v (Y.c (H.ld0 (by assumption)) rfl) ?_
 refine Y.v (Ev.indexAddr (j := 0) (el_run rfl) (size_run rfl) rfl rfl rfl hpos) <| Y.v (Y.f rfl rfl) ?_
 refine OPS.val rfl rfl rfl (by refine Ev.loadN (b := b) (o := o + 0 * 3 + 0) (labCells x) ?_ ?_ ?_ ⟨x0, x1, trivial⟩; exact agg_run rfl; exact size_run rfl; rfl) ?_
 refine OPS.store 0 _ rfl rfl rfl (size_run rfl) rfl (cA rfl) rfl rfl H rfl (by simp) ?_
 clear H; intro w H; try simp only [List.set_cons_zero, List.set_cons_succ, putL, Nat.zero_add] at H
 refine Y.v (Ev.asB rfl) <| Y.z ?_
 refine WP.ret ⟨[_, _], ⟨(by exact resCellA 0 H rfl (agg_run rfl) (size_run rfl) (by rfl) rfl), rfl, trivial⟩, ?_⟩
 exact ⟨rfl, H.below⟩
theorem qNew (w0 : World) :
  Calls Try.prog 77 #[.func (.func 78) #[] #[]] w0 fun e w' => ∃ g, e = .returned (.pointer (some ⟨g, 0, none⟩)) ∧ SH w0 [] w' [⟨g, 170, qCells none 0 0 0⟩] := by
 have H := SH.refl w0
 refine Calls.ofWP Try.func77 rfl Try.results77 Try.ntmps77 rfl <| Y.qr <| Y.v (Ev.asP rfl) <| Y.z <| Y.q <| Y.qr <| Y.v (Ev.mvF rfl) <| Y.v (Ev.eqlFn Try.runUnderlying147 rfl rfl) <| Y.z <| WP.cond_f rfl ?_
 refine Y.k <| Y.qr <| Y.v (Ev.mvF rfl) <| Y.v (Ev.build (bld_170_0 rfl)) <| Y.bx (cA rfl) H ?_
 clear H; intro g7 w H
 refine Y.v (Ev.asP rfl) <| Y.z ?_
 refine WP.ret ⟨_, rfl, ?_⟩
 exact ⟨_, rfl, H⟩
end Go.Proofs.Ytgjfjbphngamgaa.Flo

/-
 Walk: the priority queue of labels: sink.
-/
set_option linter.all false
namespace Go.Proofs.Ytgjfjbphngamgaa.Flo
open Go Go.W Go.RowKit
theorem entLtOk : LtOk entLt := ⟨fun x y h => by unfold entLt at *; simp at *; omega, fun x y z h1 h2 => by unfold entLt at *; simp at *; omega⟩
theorem qBeforeI (gq ga cap i k : Nat) (x y p : Int) (h : List Ent) (sp : List Value) (w0 w : World) (S : List Nat) (L : List Blk) (hx : x = i) (hy : y = k) (H : SH w0 S w L) (h0 : L[0]? = some ⟨gq, 170, qCells (some ⟨ga, 0, none⟩) h.length cap p⟩) (h1 : L[1]? = some ⟨ga, 172, h.flatMap entCells ++ sp⟩) (hi : i < h.length) (hk : k < h.length) :
  Calls Try.prog 95 #[.pointer (some ⟨gq, 0, none⟩), I x, I y] w fun e w' => e = .returned (.bool (entLt (h.getD i default) (h.getD k default))) ∧ Below w.heap.size w w' := by
 subst hx hy
 have e1 : h.getD i default = h[i] := by simp [hi]
 have e2 : h.getD k default = h[k] := by simp [hk]
 rw [e1, e2]
 exact qBefore gq cap i k (some ⟨ga, 0, none⟩) p h w (cellsAt_own H 0 h0 _ 0 fun j hj => by rw [Nat.zero_add]; exact List.getElem?_eq_getElem hj) (rowsOwn entCells_len H 1 h1) hi hk
theorem qSwapI (gq ga cap i k : Nat) (x y p : Int) (h : List Ent) (sp : List Value) (w0 w : World) (S : List Nat) (hx : x = i) (hy : y = k) (H : SH w0 S w (qBlks gq ga h cap p sp)) (hi : i < h.length) (hk : k < h.length) :
  Calls Try.prog 96 #[.pointer (some ⟨gq, 0, none⟩), I x, I y] w fun e w' => e = .returned (.tuple #[]) ∧ SH w0 S w' (qBlks gq ga (swapL h i k) cap p sp) := by
 subst hx hy
 refine (qSwap gq ga cap i k p h sp w hi hk (H.restart (List.Sublist.refl _))).mono fun e w' ⟨he, Hc⟩ => ⟨he, ?_⟩
 exact SH.call (L1 := []) (Lv := qBlks gq ga h cap p sp) H Hc
set_option maxHeartbeats 400000 in
theorem qSink (gq ga cap : Nat) (p : Int) (h : List Ent) (sp : List Value) (w0 : World) (S : List Nat) (hd : DownOk entLt h 0) (hl : h.length ≤ 1000000000) (H0 : SH w0 S w0 (qBlks gq ga h cap p sp)) :
  Calls Try.prog 98 #[.pointer (some ⟨gq, 0, none⟩)] w0 fun e w' => e = .returned (.tuple #[]) ∧ ∃ h' : List Ent, h'.Perm h ∧ HeapOk entLt h' ∧ SH w0 S w' (qBlks gq ga h' cap p sp) := by
 have H := H0
 refine Calls.ofWP Try.func98 rfl Try.results98 Try.ntmps98 rfl <| Y.qr <| Y.v (Ev.asI rfl) <| Y.z <| WP.block <| WP.loop [2, 3, 4, 5, 6, 7, 8, 9, 10, 11, 12, 13, 14, 15, 16, 17, 18, 19, 20, 21, 22, 23, 24, 25, 26, 27, 28, 29, 30, 31, 32, 33, 34, 35, 36, 37] (fun g e w' => ∃ (i : Nat) (h1 : List Ent), e 2 = I i ∧ SH w0 S w' (qBlks gq ga h1 cap p sp) ∧ h1.Perm h ∧ DownOk entLt h1 i ∧ (i < h.length ∨ h = []) ∧ i + g = h.length) (h.length) (⟨0, h, rfl, H, List.Perm.refl _, hd, by cases h with | nil => exact .inr rfl | cons x t => exact .inl (by simp), by omega⟩) ?_
 clear H
 rintro g u w ⟨i, h1, h2, H, hp, hd1, hi, hg⟩
 refine WP.know (t := 2) h2 ?_
 have hlen := hp.length_eq
 unfold qBlks qCells at H
 refine WP.block <| Y.qr <| Y.v (Y.m rfl) <| Y.v (Ev.asI rfl) <| Y.z <| Y.q <| Y.qr <| Y.v (Y.m rfl) <| Y.v (Ev.mul rfl rfl (by unfold fits; omega)) <| Y.v (Y.p rfl rfl) <| Y.v (Ev.asI rfl) <| Y.z <| WP.block <| WP.loop [3, 4, 9, 10, 11, 12, 13, 14, 15, 16, 17, 18, 19, 20, 21, 22, 23, 24, 25, 26, 27, 28, 29] (fun g2 e w' => ∃ k f : Nat, e 4 = I k ∧ e 3 = I f ∧ SH w0 S w' (qBlks gq ga h1 cap p sp) ∧ FirstOk entLt h1 i k f ∧ 2 * i + 1 ≤ k ∧ k + g2 = 2 * i + 3) (2) (⟨2 * i + 1, i, rfl, rfl, H, FirstOk.start entLtOk h1 i, by omega, by omega⟩) ?_
 clear H
 rintro g2 u2 w ⟨k, f, h4, h3, H, hF, hk1, hk2⟩
 refine WP.know (t := 4) h4 (WP.know (t := 3) h3 ?_)
 unfold qBlks qCells at H
 refine Y.q <| Y.qr <| Y.v (Y.m rfl) <| Y.v (Y.m rfl) <| Y.v (Ev.mul rfl rfl (by unfold fits; omega)) <| Y.v (Y.p rfl rfl) <| Y.v (Ev.leq rfl rfl) <| Y.v (Ev.mvB rfl) <| Y.g rfl rfl (fun hg => Y.m rfl) <| Y.g rfl rfl (fun hg => Ev.mvP rfl) <| Y.g rfl rfl (fun hg => Ev.nilCheckP (gvE hg rfl)) <| Y.g rfl rfl (fun hg => Ev.fieldAddr (fld_run rfl) (gvE hg rfl)) <| Y.g rfl rfl (fun hg => Ev.load1 (agg_run rfl) (gvE hg rfl) (H.ldL 0 rfl _ rfl)) <| Y.g rfl rfl (fun hg => Ev.len (el_run rfl) (gvE hg rfl)) <| Y.g rfl rfl (fun hg => Ev.lss (gvE hg rfl) (gvE hg rfl)) <| Y.v (Ev.pickAnd rfl rfl rfl) <| Y.z ?_
 refine WP.cond rfl (fun hc3 => ?_) (fun hc3 => ?_)
 ·have hkl : k ≤ 2 * i + 2 ∧ k < h1.length := by simp at hc3; omega
  have hfl : f < h1.length := by rcases hF.place with q | q <;> omega
  refine Y.k <| Y.q <| WP.block <| Y.qr <| Y.v (Ev.mvP rfl) <| Y.v (Y.m rfl) <| Y.v (Y.m rfl) <| OPS.call (d := some 28) rfl rfl rfl (EvC.func (fun_run rfl)) (qBeforeI gq ga cap k f _ _ p h1 sp w0 w S _ rfl rfl H rfl rfl hkl.2 hfl) ?_
  rintro _ w ⟨rfl, hb⟩
  refine ⟨_, rfl, ?_⟩
  replace H := H.toBelow hb; clear hb
  refine Y.z ?_
  refine WP.cond rfl (fun hc5 => ?_) (fun hc5 => ?_)
  ·have hF2 := hF.take entLtOk (by omega) hkl.2 (by omega) hc5
   refine Y.r <| Y.v (Y.m rfl) <| Y.v (Ev.asI rfl) <| Y.z <| Y.r <| Y.v (Y.m rfl) <| Y.v (Y.p rfl rfl) <| Y.v (Ev.asI rfl) <| Y.z ?_
   exact ⟨(by repeat (first | exact Agree.refl _ _ | exact Agree.mix _ _ _ | refine Agree.upd rfl ?_ | refine Agree.mix2 rfl ?_)), g2 - 1, by omega, k + 1, _, rfl, rfl, H, hF2, by omega, by omega⟩
  have hF2 := hF.keep hc5
  refine Y.k <| Y.r <| Y.v (Y.m rfl) <| Y.v (Y.p rfl rfl) <| Y.v (Ev.asI rfl) <| Y.z ?_
  exact ⟨(by repeat (first | exact Agree.refl _ _ | exact Agree.mix _ _ _ | refine Agree.upd rfl ?_ | refine Agree.mix2 rfl ?_)), g2 - 1, by omega, k + 1, _, rfl, rfl, H, hF2, by omega, by omega⟩
 have hdn : 2 * i + 2 < k ∨ h1.length ≤ k := by simp at hc3; omega
 have hall := hF.done hdn
 refine WP.exit <| XB.hit <| Y.q <| Y.qr <| Y.v (Y.m rfl) <| Y.v (Y.m rfl) <| Y.v (Ev.eql rfl rfl) <| Y.z ?_
 refine WP.cond rfl (fun hc7 => ?_) (fun hc7 => ?_)
 ·refine WP.ret ⟨_, rfl, ?_⟩
  have hfi : f = i := by simp at hc7; omega
  subst hfi
  exact ⟨rfl, h1, hp, hd1.done hall, H⟩
 have hfi : f ≠ i := by simp at hc7; omega
 obtain ⟨q1, q2, q3⟩ : 0 < f ∧ (f - 1) / 2 = i ∧ f < h1.length := by rcases hF.place with q | q; exact absurd q hfi; exact q
 have hil : i < h1.length := by omega
 refine Y.k <| Y.qr <| Y.v (Ev.mvP rfl) <| Y.v (Y.m rfl) <| Y.v (Y.m rfl) <| OPS.call (d := some 36) rfl rfl rfl (EvC.func (fun_run rfl)) (qSwapI gq ga cap i f _ _ p h1 sp w0 w S rfl rfl H hil q3) ?_
 rintro _ w ⟨rfl, H2⟩
 refine ⟨_, rfl, ?_⟩
 replace H := H2; clear H2
 refine Y.z <| Y.r <| Y.v (Y.m rfl) <| Y.v (Ev.asI rfl) <| Y.z ?_
 exact ⟨(by repeat (first | exact Agree.refl _ _ | exact Agree.mix _ _ _ | refine Agree.upd rfl ?_ | refine Agree.mix2 rfl ?_)), h.length - f, by omega, f, swapL h1 i f, rfl, H, (swapL_perm hil q3).trans hp, hd1.step hil q3 q1 q2 hF.le hall, .inl (by omega), by omega⟩
end Go.Proofs.Ytgjfjbphngamgaa.Flo

/-
 Walk: the priority queue of labels: Push.
-/
set_option linter.all false
namespace Go.Proofs.Ytgjfjbphngamgaa.Flo
open Go Go.W Go.RowKit
abbrev QOwn (A : Option Addr) (cap : Nat) (h : List Ent) (Lo : List Blk) : Prop := OwnS A cap h.length (h.flatMap entCells) 172 3 Lo
/-- the blocks of a queue -/
def qLv (gq : Nat) (A : Option Addr) (cap : Nat) (h : List Ent) (p : Int) (Lo : List Blk) : List Blk := ⟨gq, 170, qCells A h.length cap p⟩ :: Lo
theorem entCells_one (h : List Ent) : ((h.flatMap entCells).all (·.oneCell')) = true := by
 rw [List.all_eq_true]; intro v hv
 obtain ⟨x, _, hx⟩ := List.mem_flatMap.1 hv
 simp only [entCells, List.mem_cons, List.not_mem_nil, or_false] at hx
 rcases hx with rfl | rfl | rfl <;> rfl
set_option maxHeartbeats 400000 in
theorem qPush (gq cap : Nat) (A : Option Addr) (p nd ds : Int) (h : List Ent) (Lo : List Blk) (w0 : World) (S : List Nat) (hO : QOwn A cap h Lo) (hh : HeapOk entLt h) (hl : h.length ≤ 1000000) (hp : 0 ≤ p ∧ p ≤ 1000000000) (H0 : SH w0 S w0 (qLv gq A cap h p Lo)) :
  Calls Try.prog 79 #[.pointer (some ⟨gq, 0, none⟩), .agg #[I nd, I ds]] w0 fun e w' => e = .returned (.tuple #[]) ∧ ∃ (A' : Option Addr) (cap' : Nat) (h' : List Ent) (Lo' : List Blk),
   h'.Perm (h ++ [⟨nd, ds, p⟩]) ∧ HeapOk entLt h' ∧ QOwn A' cap' h' Lo' ∧ SH w0 S w' (qLv gq A' cap' h' (p + 1) Lo') := by
 have H := H0
 unfold qLv qCells at H
 refine Calls.ofWP Try.func79 rfl Try.results79 Try.ntmps79 rfl <| Y.qr <| Y.bx (cA rfl) H ?_
 clear H; intro g3 w H
 refine Y.z <| Y.q <| Y.qr <| Y.v (Ev.mvP rfl) <| Y.v (Ev.eqlPn Try.runUnderlying143 rfl rfl) <| Y.z <| WP.cond_f rfl ?_
 refine Y.k <| Y.q ?_
 have Hf := H
 replace H := H.reidx (L' := [⟨g3, 146, [I nd, I ds]⟩]) [0] (by decide) rfl
 refine WP.rheldC [7, 8, 9, 10, 11, 12, 13, 14, 15, 16, 17, 18, 19, 20, 21] (fun _ w' => ∃ (ga : Nat) (sp : List Value) (cap' : Nat), OwnS (some ⟨ga, 0, none⟩) cap' (h.length + 1) (h.flatMap entCells ++ entCells ⟨nd, ds, p⟩) 172 3 [⟨ga, 172, (h.flatMap entCells ++ entCells ⟨nd, ds, p⟩) ++ sp⟩] ∧ SH w0 S w' [⟨gq, 170, qCells (some ⟨ga, 0, none⟩) (h.length + 1) cap' p⟩, ⟨ga, 172, (h.flatMap entCells ++ entCells ⟨nd, ds, p⟩) ++ sp⟩]) mixed H ?_ ?_
 ·clear H; intro w hbw2 H
  refine Y.t 0 H rfl rfl (fun w H => Ev.mvP rfl) <| Y.t 1 H rfl rfl (fun w H => Ev.mvP rfl) <| Y.t 2 H rfl rfl (fun w H => Ev.nilCheckP rfl) <| Y.t 3 H rfl rfl (fun w H => Y.f rfl rfl) <| Y.t 5 H rfl rfl (fun w H => Y.o H 0 rfl rfl) <| Y.t 6 H rfl rfl (fun w H => Ev.mvP rfl) <| Y.t 7 H rfl rfl (fun w H => Ev.nilCheckP rfl) <| Y.t 8 H rfl rfl (fun w H => Y.f rfl rfl) ?_
  refine Y.A [4, 9] rfl ⟨⟨_, rfl, ?_⟩, ⟨_, rfl, ?_⟩, trivial⟩
  ·try replace Hf := Hf.toBelow hbw2
   refine Y.v (Y.l Hf 1 rfl rfl rfl) <| Y.z <| ⟨(H), ?_⟩
   refine Y.A [9] rfl ⟨⟨_, rfl, ?_⟩, trivial⟩
   try replace Hf := Hf.toBelow hbw2
   refine Y.v (Y.l Hf 1 rfl rfl rfl) <| Y.z <| ⟨(H), ?_⟩
   refine Y.t 10 H rfl rfl (fun w H => Ev.build (bld_172_0_1 rfl rfl)) ?_
   refine Y.A [11] rfl ⟨⟨_, rfl, ?_⟩, trivial⟩
   refine OPS.buildSlice rfl rfl rfl rfl (bsl_168_1_0 rfl) Hf ?_
   clear H Hf; intro g18 w Hf
   have H := Hf.reidx (L' := [⟨g3, 146, [I nd, I ds]⟩]) [1] (by decide) rfl
   refine Y.z <| ⟨(H), ?_⟩
   refine Y.A [12] rfl ⟨⟨_, rfl, ?_⟩, trivial⟩
   refine OPS.append (m := 1) (news := entCells ⟨nd, ds, p⟩) (R := [⟨g18, 172, entCells ⟨nd, ds, p⟩⟩, ⟨g3, 146, [I nd, I ds]⟩, ⟨gq, 170, qCells A h.length cap p⟩]) rfl rfl rfl rfl rfl (sl_run rfl) rfl rfl hO rfl (src_own Hf 0 rfl) rfl (by omega) (by unfold maxLen; omega) Hf (List.Perm.refl _) ?_
   clear H Hf hO; intro A' cap' Lo w hO Hf
   obtain ⟨ga, sp, rfl, rfl, _, _, hsl⟩ : ∃ g sp, A' = some ⟨g, 0, none⟩ ∧ Lo = [⟨g, 172, (h.flatMap entCells ++ entCells ⟨nd, ds, p⟩) ++ sp⟩] ∧ h.length + 1 ≤ cap' ∧ cap' ≤ maxLen ∧ ((h.flatMap entCells ++ entCells ⟨nd, ds, p⟩) ++ sp).length = cap' * 3 := by
    rcases hO.form with ⟨_, h, _⟩ | h
    ·omega
    ·exact h
   unfold qCells at Hf
   have H := Hf.reidx (L' := [⟨g3, 146, [I nd, I ds]⟩]) [1] (by decide) rfl
   refine Y.z <| ⟨(H), ?_⟩
   refine Y.t 13 H rfl rfl (fun w H => Ev.nilCheckP rfl) <| Y.t 14 H rfl rfl (fun w H => Y.f rfl rfl) ?_
   refine Y.A [15] rfl ⟨⟨_, rfl, ?_⟩, trivial⟩
   refine Y.st 2 Hf rfl (cS rfl) rfl ?_
   clear H Hf; intro w Hf
   have H := Hf.reidx (L' := [⟨g3, 146, [I nd, I ds]⟩]) [1] (by decide) rfl
   replace Hf := Hf.reidx (L' := [⟨gq, 170, qCells (some ⟨ga, 0, none⟩) (h.length + 1) cap' p⟩, ⟨ga, 172, (h.flatMap entCells ++ entCells ⟨nd, ds, p⟩) ++ sp⟩]) [2, 3] (by decide) rfl
   refine Y.z <| ⟨(H), ?_⟩
   refine OPH.done (by kernel_rfl) ?_
   exact ⟨(by repeat (first | exact Agree.refl _ _ | exact Agree.mix _ _ _ | refine Agree.upd rfl ?_ | refine Agree.mix2 rfl ?_)), ga, sp, cap', hO, Hf⟩
  ·try replace Hf := Hf.toBelow hbw2
   refine Y.v (Y.l Hf 1 rfl rfl rfl) <| Y.z <| ⟨(H), ?_⟩
   refine Y.t 10 H rfl rfl (fun w H => Ev.build (bld_172_0_1 rfl rfl)) ?_
   refine Y.A [4, 11] rfl ⟨⟨_, rfl, ?_⟩, ⟨_, rfl, ?_⟩, trivial⟩
   ·try replace Hf := Hf.toBelow hbw2
    refine Y.v (Y.l Hf 1 rfl rfl rfl) <| Y.z <| ⟨(H), ?_⟩
    refine Y.A [11] rfl ⟨⟨_, rfl, ?_⟩, trivial⟩
    refine OPS.buildSlice rfl rfl rfl rfl (bsl_168_1_0 rfl) Hf ?_
    clear H Hf; intro g18 w Hf
    have H := Hf.reidx (L' := [⟨g3, 146, [I nd, I ds]⟩]) [1] (by decide) rfl
    refine Y.z <| ⟨(H), ?_⟩
    refine Y.A [12] rfl ⟨⟨_, rfl, ?_⟩, trivial⟩
    refine OPS.append (m := 1) (news := entCells ⟨nd, ds, p⟩) (R := [⟨g18, 172, entCells ⟨nd, ds, p⟩⟩, ⟨g3, 146, [I nd, I ds]⟩, ⟨gq, 170, qCells A h.length cap p⟩]) rfl rfl rfl rfl rfl (sl_run rfl) rfl rfl hO rfl (src_own Hf 0 rfl) rfl (by omega) (by unfold maxLen; omega) Hf (List.Perm.refl _) ?_
    clear H Hf hO; intro A' cap' Lo w hO Hf
    obtain ⟨ga, sp, rfl, rfl, _, _, hsl⟩ : ∃ g sp, A' = some ⟨g, 0, none⟩ ∧ Lo = [⟨g, 172, (h.flatMap entCells ++ entCells ⟨nd, ds, p⟩) ++ sp⟩] ∧ h.length + 1 ≤ cap' ∧ cap' ≤ maxLen ∧ ((h.flatMap entCells ++ entCells ⟨nd, ds, p⟩) ++ sp).length = cap' * 3 := by
     rcases hO.form with ⟨_, h, _⟩ | h
     ·omega
     ·exact h
    unfold qCells at Hf
    have H := Hf.reidx (L' := [⟨g3, 146, [I nd, I ds]⟩]) [1] (by decide) rfl
    refine Y.z <| ⟨(H), ?_⟩
    refine Y.t 13 H rfl rfl (fun w H => Ev.nilCheckP rfl) <| Y.t 14 H rfl rfl (fun w H => Y.f rfl rfl) ?_
    refine Y.A [15] rfl ⟨⟨_, rfl, ?_⟩, trivial⟩
    refine Y.st 2 Hf rfl (cS rfl) rfl ?_
    clear H Hf; intro w Hf
    have H := Hf.reidx (L' := [⟨g3, 146, [I nd, I ds]⟩]) [1] (by decide) rfl
    replace Hf := Hf.reidx (L' := [⟨gq, 170, qCells (some ⟨ga, 0, none⟩) (h.length + 1) cap' p⟩, ⟨ga, 172, (h.flatMap entCells ++ entCells ⟨nd, ds, p⟩) ++ sp⟩]) [2, 3] (by decide) rfl
    refine Y.z <| ⟨(H), ?_⟩
    refine OPH.done (by kernel_rfl) ?_
    exact ⟨(by repeat (first | exact Agree.refl _ _ | exact Agree.mix _ _ _ | refine Agree.upd rfl ?_ | refine Agree.mix2 rfl ?_)), ga, sp, cap', hO, Hf⟩
   ·refine OPS.buildSlice rfl rfl rfl rfl (bsl_168_1_0 rfl) Hf ?_
    clear H Hf; intro g18 w Hf
    have H := Hf.reidx (L' := [⟨g3, 146, [I nd, I ds]⟩]) [1] (by decide) rfl
    refine Y.z <| ⟨(H), ?_⟩
    refine Y.A [4] rfl ⟨⟨_, rfl, ?_⟩, trivial⟩
    try replace Hf := Hf.toBelow hbw2
    refine Y.v (Y.l Hf 2 rfl rfl rfl) <| Y.z <| ⟨(H), ?_⟩
    refine Y.A [12] rfl ⟨⟨_, rfl, ?_⟩, trivial⟩
    refine OPS.append (m := 1) (news := entCells ⟨nd, ds, p⟩) (R := [⟨g18, 172, entCells ⟨nd, ds, p⟩⟩, ⟨g3, 146, [I nd, I ds]⟩, ⟨gq, 170, qCells A h.length cap p⟩]) rfl rfl rfl rfl rfl (sl_run rfl) rfl rfl hO rfl (src_own Hf 0 rfl) rfl (by omega) (by unfold maxLen; omega) Hf (List.Perm.refl _) ?_
    clear H Hf hO; intro A' cap' Lo w hO Hf
    obtain ⟨ga, sp, rfl, rfl, _, _, hsl⟩ : ∃ g sp, A' = some ⟨g, 0, none⟩ ∧ Lo = [⟨g, 172, (h.flatMap entCells ++ entCells ⟨nd, ds, p⟩) ++ sp⟩] ∧ h.length + 1 ≤ cap' ∧ cap' ≤ maxLen ∧ ((h.flatMap entCells ++ entCells ⟨nd, ds, p⟩) ++ sp).length = cap' * 3 := by
     rcases hO.form with ⟨_, h, _⟩ | h
     ·omega
     ·exact h
    unfold qCells at Hf
    have H := Hf.reidx (L' := [⟨g3, 146, [I nd, I ds]⟩]) [1] (by decide) rfl
    refine Y.z <| ⟨(H), ?_⟩
    refine Y.t 13 H rfl rfl (fun w H => Ev.nilCheckP rfl) <| Y.t 14 H rfl rfl (fun w H => Y.f rfl rfl) ?_
    refine Y.A [15] rfl ⟨⟨_, rfl, ?_⟩, trivial⟩
    refine Y.st 2 Hf rfl (cS rfl) rfl ?_
    clear H Hf; intro w Hf
    have H := Hf.reidx (L' := [⟨g3, 146, [I nd, I ds]⟩]) [1] (by decide) rfl
    replace Hf := Hf.reidx (L' := [⟨gq, 170, qCells (some ⟨ga, 0, none⟩) (h.length + 1) cap' p⟩, ⟨ga, 172, (h.flatMap entCells ++ entCells ⟨nd, ds, p⟩) ++ sp⟩]) [2, 3] (by decide) rfl
    refine Y.z <| ⟨(H), ?_⟩
    refine OPH.done (by kernel_rfl) ?_
    exact ⟨(by repeat (first | exact Agree.refl _ _ | exact Agree.mix _ _ _ | refine Agree.upd rfl ?_ | refine Agree.mix2 rfl ?_)), ga, sp, cap', hO, Hf⟩
 clear H
 rintro u w ⟨ga, sp, cap', hO, H⟩
 have e1 : (h ++ [(⟨nd, ds, p⟩ : Ent)]).flatMap entCells = h.flatMap entCells ++ entCells ⟨nd, ds, p⟩ := by simp
 have e2 : (h ++ [(⟨nd, ds, p⟩ : Ent)]).length = h.length + 1 := by simp
 rw [← e1, ← e2] at H hO
 have hup := UpOk.start hh (⟨nd, ds, p⟩ : Ent)
 unfold qCells at H
 refine Y.qr <| Y.v (Ev.mvP rfl) <| Y.v (Ev.nilCheckP rfl) <| Y.v (Y.f rfl rfl) <| Y.v (Y.l H 0 rfl rfl rfl) <| Y.v (Y.p rfl rfl) <| Y.v (Ev.nilCheckP rfl) <| Y.v (Y.f rfl rfl) <| Y.st 0 H rfl (cI rfl) rfl ?_
 clear H; intro w H; try simp only [List.set_cons_zero, List.set_cons_succ, putL, Nat.zero_add] at H
 refine Y.z <| Y.qr <| Y.v (Ev.mvP rfl) <| Y.v (Ev.nilCheckP rfl) <| Y.v (Y.f rfl rfl) <| Y.v (Y.l H 0 rfl rfl rfl) <| Y.v (Y.n rfl) <| Y.v (Y.s rfl rfl) <| Y.v (Ev.asI rfl) <| Y.z <| WP.block <| WP.loop [4, 35, 36, 37, 38, 39, 40, 41, 42, 43, 44, 45, 46, 47, 48, 49, 50, 51, 52, 53] (fun g e w' => ∃ (i : Nat) (h1 : List Ent), i = g ∧ e 4 = I i ∧ SH w0 S w' (qBlks gq ga h1 cap' (p + 1) sp) ∧ h1.Perm (h ++ [⟨nd, ds, p⟩]) ∧ UpOk entLt h1 i) (h.length) (⟨h.length, h ++ [(⟨nd, ds, p⟩ : Ent)], rfl, by rw [show (((h ++ [(⟨nd, ds, p⟩ : Ent)]).length : Nat) : Int) - 1 = (h.length : Nat) from by rw [e2]; omega]; rfl, H, List.Perm.refl _, hup⟩) ?_
 clear H
 rintro g u w ⟨i, h1, rfl, h4, H, hpm, hu⟩
 refine WP.know (t := 4) h4 ?_
 have hlen := hpm.length_eq
 have hil := hu.lt'
 unfold qBlks qCells at H
 refine Y.q <| Y.q ?_
 skip
 refine Y.r <| Y.v (Y.m rfl) <| Y.v (Ev.gtr rfl rfl) <| Y.v (Ev.mvB rfl) <| Y.g rfl rfl (fun hg => Ev.mvP rfl) <| Y.g rfl rfl (fun hg => Y.m rfl) <| Y.g rfl rfl (fun hg => Y.m rfl) <| Y.g rfl rfl (fun hg => Ev.sub (gvE hg rfl) rfl (by unfold fits; omega)) <| Y.g rfl rfl (fun hg => Ev.quo (gvE hg rfl) rfl (by simp at hg; omega) (by omega) (by omega)) <| OPS.gcall (f := 95) (args := [.pointer (some ⟨gq, 0, none⟩), I i, I (((i : Int) - 1) / 2)]) (v := .bool (entLt (h1.getD i default) (h1.getD ((i - 1) / 2) default))) rfl rfl rfl rfl rfl (fun hg => EvC.conv (EvC.func (fun_run rfl)) (l3 (gvE hg rfl) (gvE hg rfl) (gvE hg rfl))) (fun hg => qBeforeI gq ga cap' i ((i - 1) / 2) _ _ (p + 1) h1 sp w0 w S _ rfl (by simp at hg; omega) H rfl rfl hil (by omega)) ?_
 intro w hbc; replace H := H.toBelow hbc; clear hbc
 refine Y.v (Ev.pickAnd rfl rfl rfl) <| Y.z ?_
 refine WP.cond rfl (fun hc5 => ?_) (fun hc5 => ?_)
 ·rw [Bool.and_eq_true, decide_eq_true_eq] at hc5
  have hi0 : 0 < i := by omega
  refine Y.k <| Y.q <| WP.block <| Y.r <| Y.v (Ev.mvP rfl) <| Y.v (Y.m rfl) <| Y.v (Y.m rfl) <| Y.v (Y.s rfl rfl) <| Y.v (Ev.quo rfl rfl (by omega) (by omega) (by omega)) <| OPS.call (d := some 53) rfl rfl rfl (EvC.func (fun_run rfl)) (qSwapI gq ga cap' i ((i - 1) / 2) _ _ (p + 1) h1 sp w0 w S rfl (by omega) H hil (by omega)) ?_
  rintro _ w ⟨rfl, H2⟩
  refine ⟨_, rfl, ?_⟩
  replace H := H2; clear H2
  refine Y.z <| Y.r <| Y.v (Y.m rfl) <| Y.v (Y.s rfl rfl) <| Y.v (Ev.quo rfl rfl (by omega) (by omega) (by omega)) <| Y.v (Ev.asI rfl) <| Y.z ?_
  exact ⟨(by repeat (first | exact Agree.refl _ _ | exact Agree.mix _ _ _ | refine Agree.upd rfl ?_ | refine Agree.mix2 rfl ?_)), (i - 1) / 2, by omega, (i - 1) / 2, swapL h1 i ((i - 1) / 2), rfl, by rw [show (((i - 1) / 2 : Nat) : Int) = ((i : Int) - 1) / 2 from by omega]; rfl, H, (swapL_perm hil (by omega)).trans hpm, hu.step entLtOk hi0 hc5.2⟩
 refine WP.exit <| XB.hit <| ⟨_, rfl, ?_⟩
 have hfin : HeapOk entLt h1 := hu.done (by
  rcases Nat.eq_zero_or_pos i with h0 | h0
  ·exact .inl h0
  ·refine .inr ?_
   have q : decide ((0 : Int) < i) = true := by simp; omega
   rw [q, Bool.true_and] at hc5
   exact hc5)
 have e3 : (h1.flatMap entCells).length = ((h ++ [(⟨nd, ds, p⟩ : Ent)]).flatMap entCells).length := by rw [rows_length entCells_len, rows_length entCells_len, hlen]
 have hO2 : QOwn (some ⟨ga, 0, none⟩) cap' h1 [⟨ga, 172, h1.flatMap entCells ++ sp⟩] := by
  refine ⟨rows_length entCells_len h1, .inr ⟨ga, sp, rfl, rfl, ?_⟩⟩
  rcases hO.form with ⟨_, q, _⟩ | ⟨g', sp', q1, q2, q3, q4, q5⟩
  ·rw [e2] at q; omega
  ·have q6 : sp' = sp := by
    simp only [List.cons.injEq, Blk.mk.injEq, and_true, true_and] at q2
    exact (List.append_cancel_left q2.2).symm
   subst q6
   refine ⟨by rw [hlen]; exact q3, q4, ?_⟩
   rw [List.length_append] at q5 ⊢
   rw [e3]; exact q5
 exact ⟨rfl, _, cap', h1, _, hpm, hfin, hO2, H⟩
end Go.Proofs.Ytgjfjbphngamgaa.Flo

/-
 Walk: the priority queue of labels: Pop.
-/
set_option linter.all false
namespace Go.Proofs.Ytgjfjbphngamgaa.Flo
open Go Go.W Go.RowKit
theorem qRows {A : Option Addr} {cap gq : Nat} {p : Int} {h : List Ent} {Lo : List Blk} {w0 w : World} {S : List Nat} (hO : QOwn A cap h Lo) (H : SH w0 S w (qLv gq A cap h p Lo)) : RowsAt 3 entCells w A h := by
 rcases hO.form with ⟨_, q, _, _⟩ | ⟨g, sp, rfl, rfl, _⟩
 ·rw [List.length_eq_zero_iff.1 q]; exact RowsAt.nil
 ·exact rowsOwn entCells_len H 1 rfl
theorem popL_set (h : List Ent) (z : Ent) (hl : 0 < h.length) : (swapL h 0 (h.length - 1)).set (h.length - 1) z = popL h ++ [z] := by
 have e : (swapL h 0 (h.length - 1)).length = h.length := swapL_length ..
 rw [List.set_eq_take_append_cons_drop, if_pos (by omega), List.drop_eq_nil_of_le (by omega)]; rfl
/-- what Pop returns -/
def popV (x : Ent) (b : Bool) : Value := .tuple #[labV x, .bool b]
set_option maxHeartbeats 400000 in
theorem qPop (gq cap : Nat) (A : Option Addr) (p : Int) (h : List Ent) (Lo : List Blk) (w0 : World) (S : List Nat) (hO : QOwn A cap h Lo) (hh : HeapOk entLt h) (hl : h.length ≤ 1000000) (H0 : SH w0 S w0 (qLv gq A cap h p Lo)) :
  Calls Try.prog 80 #[.pointer (some ⟨gq, 0, none⟩)] w0 fun e w' =>
   (h = [] ∧ e = .returned (popV ⟨0, 0, 0⟩ false) ∧ SH w0 S w' (qLv gq A cap h p Lo)) ∨
   ∃ (x : Ent) (t h' : List Ent) (Lo' : List Blk), h = x :: t ∧ e = .returned (popV x true) ∧ (x :: h').Perm h ∧ HeapOk entLt h' ∧ QOwn A cap h' Lo' ∧ SH w0 S w' (qLv gq A cap h' p Lo') := by
 have H := H0
 have hrow : ∀ w, SH w0 S w (qLv gq A cap h p Lo) → RowsAt 3 entCells w A h := fun w H => qRows hO H
 refine Calls.ofWPc Try.func80 rfl Try.results80 Try.ntmps80 rfl <| Y.qr <| Y.al H rfl rfl ?_
 clear H; intro g2 w H
 refine Y.v (Ev.asB rfl) <| Y.z <| Y.q ?_
 have Hq := H.reidx (L' := [⟨gq, 170, qCells A h.length cap p⟩]) [1] (by decide) rfl
 have hr1 := hrow w (H.drop (List.sublist_cons_self _ _))
 have hq1 : cellsAt w gq 0 (qCells A h.length cap p) := cellsAt_own H 1 rfl _ 0 fun j hj => by rw [Nat.zero_add]; exact List.getElem?_eq_getElem hj
 clear Hq
 refine Y.r <| Y.v (Ev.mvP rfl) <| OPS.call (d := some 9) rfl rfl rfl (EvC.func (fun_run rfl)) (qPeek gq cap A p h _ hq1 hr1) ?_
 rintro _ w ⟨rfl, hb⟩
 refine ⟨_, rfl, ?_⟩
 replace H := H.toBelow hb; clear hb
 refine Y.v (Ev.mvT rfl) <| Y.v (Ev.extract rfl rfl) <| Y.v (Ev.extract rfl rfl) <| Y.al H rfl rfl ?_
 clear H; intro g4 w H
 refine OPS.store 0 _ rfl rfl rfl (size_run rfl) rfl (cA rfl) rfl rfl H rfl (by simp) ?_
 clear H; intro w H; try simp only [List.set_cons_zero, List.set_cons_succ, putL, Nat.zero_add] at H
 refine Y.v (Ev.asB rfl) <| Y.z <| Y.q <| Y.qr <| Y.v (Ev.mvB rfl) <| Y.v (Ev.not rfl) <| Y.z ?_
 refine WP.cond rfl (fun hc2 => ?_) (fun hc2 => ?_)
 ·have h0 : h = [] := by cases h with | nil => rfl | cons x t => simp at hc2
  subst h0
  refine WP.seq ?_
  refine WP.region ?_
  refine OPS.val rfl rfl rfl ((by exact Ev.loadO 0 H rfl (agg_run rfl) (size_run rfl) (by rfl) rfl)) ?_
  refine OPS.store 1 _ rfl rfl rfl (size_run rfl) rfl (cA rfl) rfl rfl H rfl (by simp) ?_
  clear H; intro w H; try simp only [List.set_cons_zero, List.set_cons_succ, putL, Nat.zero_add] at H
  refine Y.v (Ev.asB rfl) <| Y.z ?_
  refine WP.ret ⟨[_, _], ⟨(by exact resCellA 1 H rfl (agg_run rfl) (size_run rfl) (by rfl) rfl), rfl, trivial⟩, ?_⟩
  exact .inl ⟨rfl, rfl, H.drop ((List.sublist_cons_self _ _).trans (List.sublist_cons_self _ _))⟩
 obtain ⟨x, t, rfl⟩ : ∃ x t, h = x :: t := by cases h with | nil => simp at hc2 | cons x t => exact ⟨x, t, rfl⟩
 obtain ⟨ga, sp, rfl, rfl, hcap, hmx, hsl⟩ : ∃ g sp, A = some ⟨g, 0, none⟩ ∧ Lo = [⟨g, 172, (x :: t).flatMap entCells ++ sp⟩] ∧ (x :: t).length ≤ cap ∧ cap ≤ maxLen ∧ ((x :: t).flatMap entCells ++ sp).length = cap * 3 := by
  rcases hO.form with ⟨_, h, _⟩ | h
  ·simp at h
  ·exact h
 simp only [List.length_cons] at hcap hl
 have hlc : (x :: t).length = t.length + 1 := rfl
 unfold qLv qCells at H
 refine Y.k <| Y.qr <| Y.v (Ev.mvP rfl) <| Y.v (Ev.nilCheckP rfl) <| Y.v (Y.f rfl rfl) <| Y.v (Y.l H 2 rfl rfl rfl) <| Y.v (Y.n rfl) <| Y.v (Y.s rfl rfl) <| Y.v (Ev.asI rfl) <| Y.z <| Y.qr <| Y.v (Ev.mvP rfl) <| Y.v (Y.m rfl) <| OPS.call (d := some 23) rfl rfl rfl (EvC.func (fun_run rfl)) (qSwapI gq ga cap 0 t.length _ _ p (x :: t) sp w w (qBlks gq ga (x :: t) cap p sp |>.map (·.g)) rfl (by simp only [List.length_cons]; omega) (SH.restart H (Lv := qBlks gq ga (x :: t) cap p sp) ((List.sublist_cons_self _ _).trans (List.sublist_cons_self _ _))) (by simp) (by simp)) ?_
 rintro _ w ⟨rfl, H2⟩
 refine ⟨_, rfl, ?_⟩
 replace H := SH.call (Lv := qBlks gq ga (x :: t) cap p sp) (L1 := [_, _]) H H2
 clear H2
 unfold qBlks qCells at H
 rw [swapL_length] at H
 refine Y.z <| Y.qr <| Y.v (Ev.mvP rfl) <| Y.v (Ev.nilCheckP rfl) <| Y.v (Y.f rfl rfl) <| Y.v (Y.l H 2 rfl rfl rfl) <| Y.v (Y.m rfl) <| Y.v (Ev.sliceFrom2 (j := t.length) (el_run rfl) (size_run rfl) rfl rfl (by simp only [List.length_cons]; omega) (by simp) (by omega)) <| OPS.clear 3 _ rfl rfl rfl (zs := entCells ⟨0, 0, 0⟩) (el_run rfl) (zero_run rfl) rfl (by decide) rfl rfl (by simp) H rfl (by simp only [List.length_append, rows_length entCells_len, swapL_length, hlc, entCells_len]; omega) ?_
 clear H; intro w H
 simp only [List.set_cons_zero, List.set_cons_succ] at H
 rw [show (x :: t).length - t.length = 1 from by rw [hlc]; omega, show mkL 1 (entCells ⟨0, 0, 0⟩) = entCells ⟨0, 0, 0⟩ from rfl, putL_ents _ _ _ _ (by rw [swapL_length, hlc]; omega),
  show (swapL (x :: t) 0 t.length).set t.length ⟨0, 0, 0⟩ = popL (x :: t) ++ [⟨0, 0, 0⟩] from popL_set (x :: t) _ (by simp), List.flatMap_append, List.append_assoc] at H
 refine Y.z <| Y.qr <| Y.v (Ev.mvP rfl) <| Y.v (Ev.mvP rfl) <| Y.v (Ev.nilCheckP rfl) <| Y.v (Y.f rfl rfl) <| Y.v (Y.l H 2 rfl rfl rfl) <| Y.v (Y.m rfl) <| Y.v (Ev.sliceTo (j := t.length) (el_run rfl) ⟨3, size_run rfl⟩ rfl rfl (by simp only [List.length_cons]; omega) (by omega)) <| Y.v (Ev.nilCheckP rfl) <| Y.v (Y.f rfl rfl) <| Y.st 2 H rfl (cS rfl) rfl ?_
 clear H; intro w H; try simp only [List.set_cons_zero, List.set_cons_succ, putL, Nat.zero_add] at H
 refine Y.z <| Y.qr <| Y.v (Ev.mvP rfl) <| OPS.call (d := some 40) rfl rfl rfl (EvC.func (fun_run rfl)) (qSink gq ga cap p (popL (x :: t)) ([⟨0, 0, 0⟩].flatMap entCells ++ sp) w (qBlks gq ga (popL (x :: t)) cap p ([⟨0, 0, 0⟩].flatMap entCells ++ sp) |>.map (·.g)) (DownOk.start hh) (by rw [popL_length, hlc]; omega) (SH.restart H (Lv := qBlks gq ga (popL (x :: t)) cap p ([⟨0, 0, 0⟩].flatMap entCells ++ sp)) (by unfold qBlks qCells; rw [popL_length]; exact ((List.sublist_cons_self _ _).trans (List.sublist_cons_self _ _))))) ?_
 rintro _ w ⟨rfl, h', hp', hh', H2⟩
 refine ⟨_, rfl, ?_⟩
 replace H := SH.call (Lv := qBlks gq ga (popL (x :: t)) cap p ([⟨0, 0, 0⟩].flatMap entCells ++ sp)) (L1 := [⟨g4, 146, labCells x⟩, ⟨g2, 146, [I 0, I 0]⟩]) (by unfold qBlks qCells; rw [popL_length]; exact H) H2
 clear H2
 have hlen' : h'.length = t.length := by rw [hp'.length_eq, popL_length]; rfl
 unfold qBlks labCells at H
 refine Y.z <| Y.qr <| Y.v (Y.o H 0 rfl rfl) <| Y.st 1 H rfl (cA rfl) rfl ?_
 clear H; intro w H; try simp only [List.set_cons_zero, List.set_cons_succ, putL, Nat.zero_add] at H
 refine Y.v (Ev.asB rfl) <| Y.z ?_
 refine WP.ret ⟨[_, _], ⟨(by exact resCellA 1 H rfl (agg_run rfl) (size_run rfl) (by rfl) rfl), rfl, trivial⟩, ?_⟩
 refine .inr ⟨x, t, h', [⟨ga, 172, h'.flatMap entCells ++ ([⟨0, 0, 0⟩].flatMap entCells ++ sp)⟩], rfl, rfl, (List.Perm.cons x hp').trans popL_perm, hh', ⟨rows_length entCells_len h', .inr ⟨ga, _, rfl, rfl, by omega, hmx, ?_⟩⟩, H.drop ((List.sublist_cons_self _ _).trans (List.sublist_cons_self _ _))⟩
 rw [← hsl]
 simp only [List.length_append, rows_length entCells_len, hlen', hlc, List.length_cons, List.length_nil]
 omega
/-- Pop, in one form -/
theorem qPop2 (gq cap : Nat) (A : Option Addr) (p : Int) (h : List Ent) (Lo : List Blk) (w0 : World) (S : List Nat) (hO : QOwn A cap h Lo) (hh : HeapOk entLt h) (hl : h.length ≤ 1000000) (H0 : SH w0 S w0 (qLv gq A cap h p Lo)) :
  Calls Try.prog 80 #[.pointer (some ⟨gq, 0, none⟩)] w0 fun e w' =>
   ∃ (x : Ent) (b : Bool) (h' : List Ent) (Lo' : List Blk), e = .returned (popV x b) ∧ (b = false → h = [] ∧ h' = []) ∧ (b = true → (x :: h').Perm h ∧ ∀ z ∈ h, x.dist ≤ z.dist) ∧ HeapOk entLt h' ∧ QOwn A cap h' Lo' ∧ SH w0 S w' (qLv gq A cap h' p Lo') := by
 refine (qPop gq cap A p h Lo w0 S hO hh hl H0).mono fun e w' hr => ?_
 rcases hr with ⟨rfl, he, H⟩ | ⟨x, t, h', Lo', rfl, he, hp, hh', hO', H⟩
 ·exact ⟨⟨0, 0, 0⟩, false, [], Lo, he, fun _ => ⟨rfl, rfl⟩, (fun h => by cases h), hh, hO, H⟩
 ·refine ⟨x, true, h', Lo', he, (fun h => by cases h), fun _ => ⟨hp, fun z hz => ?_⟩, hh', hO', H⟩
  have := hh.root_le entLtOk z hz
  unfold entLt at this
  simp only [Bool.or_eq_false_iff, decide_eq_false_iff_not] at this
  omega
end Go.Proofs.Ytgjfjbphngamgaa.Flo

/-
 Walk: the function that nearest hands to each.
-/
set_option linter.all false
namespace Go.Proofs.Ytgjfjbphngamgaa.Flo
open Go Go.W Go.RowKit
/-- where nearest keeps its variables -/
structure NAdr where
 gx : Nat
 gdo : Nat
 gpo : Nat
 gst : Nat
 gdi : Nat
 gwa : Nat
 gS : Nat
 gI : Nat
 gD : Nat
 gq : Nat
/-- what nearest is at work on -/
structure NSt where
 sts : List Step
 dist : List Int
 h : List Ent
 p : Int
 A : Option Addr
 cap : Nat
 Lo : List Blk
def nVars (g : NAdr) (n x : Nat) (xd : Int) (Ap : Option Addr) (np capp : Nat) : List Blk :=
 [⟨g.gx, 146, [I x, I xd]⟩, ⟨g.gdo, 135, [.slice (some ⟨g.gD, 0, none⟩) n n]⟩, ⟨g.gpo, 31, [.slice Ap np capp]⟩, ⟨g.gst, 112, [.slice (some ⟨g.gS, 0, none⟩) n n]⟩, ⟨g.gdi, 31, [.slice (some ⟨g.gI, 0, none⟩) n n]⟩, ⟨g.gwa, 143, [.pointer (some ⟨g.gq, 0, none⟩)]⟩]
def nLv (g : NAdr) (n x : Nat) (xd : Int) (Ap : Option Addr) (np capp : Nat) (done : List Bool) (s : NSt) : List Blk :=
 nVars g n x xd Ap np capp ++ ([⟨g.gD, 4, done.map Bo⟩, ⟨g.gS, 116, s.sts.flatMap stepCells⟩, ⟨g.gI, 3, s.dist.map I⟩] ++ qLv g.gq s.A s.cap s.h s.p s.Lo)
/-- what a visit of the arc from a to b does -/
def nVisC (x : Nat) (xd : Int) (pots : List Int) (done : List Bool) (s : NSt) (a b : Nat) (cost : Int) : Bool :=
 (decide (a = x) && !done.getD b false) && ((!(s.sts.getD b default).known) || decide (xd + cost + pots.getD a 0 - pots.getD b 0 < s.dist.getD b 0))
def NVis (x : Nat) (xd : Int) (pots : List Int) (done : List Bool) (a b arc : Nat) (room cost : Int) (fwd : Bool) (s s' : NSt) : Prop :=
 if nVisC x xd pots done s a b cost = true then
  s'.sts = s.sts.set b ⟨a, arc, room, fwd, true, 0⟩ ∧ s'.dist = s.dist.set b (xd + cost + pots.getD a 0 - pots.getD b 0) ∧ s'.h.Perm (s.h ++ [⟨b, xd + cost + pots.getD a 0 - pots.getD b 0, s.p⟩]) ∧ s'.p = s.p + 1
 else s'.sts = s.sts ∧ s'.dist = s.dist ∧ s'.h = s.h ∧ s'.p = s.p
structure NStOk (n : Nat) (s : NSt) : Prop where
 slen : s.sts.length = n
 dlen : s.dist.length = n
 own : QOwn s.A s.cap s.h s.Lo
 heap : HeapOk entLt s.h
set_option maxHeartbeats 1000000 in
theorem nearVisit (g : NAdr) (n x a b arc : Nat) (xd room cost : Int) (fwd : Bool) (Ap : Option Addr) (capp : Nat) (pots : List Int) (done : List Bool) (s : NSt) (w0 : World) (S : List Nat) (hok : NStOk n s) (hpl : pots.length = n) (hdl : done.length = n)
  (ha : a < n) (hb : b < n) (hp : IntsAt w0 Ap pots) (hpo : ∀ i (h : i < pots.length), -1000000000000 ≤ pots[i] ∧ pots[i] ≤ 1000000000000) (hxd : -1000000000000 ≤ xd ∧ xd ≤ 1000000000000) (hco : -1000000000000 ≤ cost ∧ cost ≤ 1000000000000)
  (hl : s.h.length ≤ 1000000) (hpp : 0 ≤ s.p ∧ s.p ≤ 1000000000) (hoff : pots ≠ [] → Off Ap S) (H0 : SH w0 S w0 (nLv g n x xd Ap n capp done s)) :
  Calls Try.prog 82 #[I a, I b, I arc, I room, I cost, .bool fwd, .pointer (some ⟨g.gx, 0, none⟩), .pointer (some ⟨g.gdo, 0, none⟩), .pointer (some ⟨g.gpo, 0, none⟩), .pointer (some ⟨g.gst, 0, none⟩), .pointer (some ⟨g.gdi, 0, none⟩), .pointer (some ⟨g.gwa, 0, none⟩)] w0
   fun e w' => e = .returned (.tuple #[]) ∧ ∃ s', NVis x xd pots done a b arc room cost fwd s s' ∧ NStOk n s' ∧ SH w0 S w' (nLv g n x xd Ap n capp done s') := by
 have H := H0
 simp only [nLv, nVars, qLv, qCells, List.cons_append, List.nil_append] at H
 have hs1 : s.sts.getD b default = s.sts[b]'(by rw [hok.slen]; exact hb) := by simp [hok.slen, hb]
 have hd1 : s.dist.getD b 0 = s.dist[b]'(by rw [hok.dlen]; exact hb) := by simp [hok.dlen, hb]
 have hpa : pots.getD a 0 = pots[a]'(by omega) := by simp [hpl, ha]
 have hpb : pots.getD b 0 = pots[b]'(by omega) := by simp [hpl, hb]
 have hdb : done.getD b false = done[b]'(by omega) := by simp [hdl, hb]
 have ho1 := hpo a (by omega)
 have ho2 := hpo b (by omega)
 refine Calls.ofWP Try.func82 rfl Try.results82 Try.ntmps82 rfl <| Y.q <| Y.qr ?_
 obtain ⟨_, _, e1, hxd1⟩ := onesOwn H 6 rfl b (by omega)
 cases e1
 refine Y.v (Y.m rfl) <| Y.v (Y.f rfl rfl) <| Y.v (Y.l H 0 rfl rfl rfl) <| Y.v (Ev.neq rfl rfl) <| Y.v (Ev.mvB rfl) <| Y.g rfl rfl (fun hg => Y.l H 1 rfl rfl rfl) <| Y.g rfl rfl (fun hg => Y.m rfl) <| Y.g rfl rfl (fun hg => Ev.indexAddr1 (el_run rfl) (size_run rfl) (gvE hg rfl) (gvE hg rfl) rfl (by omega)) <| Y.g rfl rfl (fun hg => Ev.load1 (agg_run rfl) (gvE hg rfl) (by assumption)) ?_
 refine Y.v (Ev.pickOr rfl rfl rfl) <| Y.z ?_
 refine WP.cond rfl (fun hc0 => ?_) (fun hc0 => ?_)
 ·refine WP.ret ⟨_, rfl, ?_⟩
  have hcc : nVisC x xd pots done s a b cost = false := by
   unfold nVisC
   rw [hdb]
   have h2 : (decide (a = x) && !done[b]) = false := by
    by_cases q : a = x
    ·subst q; simpa using hc0
    ·simp [q]
   rw [h2]; rfl
  exact ⟨rfl, s, by unfold NVis; rw [if_neg (by rw [hcc]; simp)]; exact ⟨rfl, rfl, rfl, rfl⟩, hok, H⟩
 have hax : a = x := by
  by_cases q : a = x
  ·exact q
  ·exfalso; have q2 : ¬ ((a : Int) = x) := by omega
   simp [q2] at hc0
 subst hax
 have hdf : done[b] = false := by simpa using hc0
 obtain ⟨bp, op, rfl, hpa1⟩ := hp a (by omega)
 obtain ⟨_, _, e1, hpb1⟩ := hp b (by omega)
 cases e1
 have hbS : bp ∉ S := hoff (List.ne_nil_of_length_pos (by omega)) bp op rfl
 refine Y.k <| Y.q <| WP.rstill mixed (by kernel_rfl) H ?_
 clear H; intro w hbw1 H
 refine Y.v (Y.f rfl rfl) <| Y.v (Y.l H 0 rfl rfl rfl) <| Y.v (Y.m rfl) <| Y.v (Y.p rfl rfl) <| Y.v (Y.l H 2 rfl rfl rfl) <| Y.v (Y.m rfl) <| Y.v (Y.x rfl rfl rfl rfl) <| Y.v (Y.c (H.ldS (by assumption) (by assumption)) rfl) ?_
 refine Y.v (Y.p rfl rfl) <| Y.v (Y.l H 2 rfl rfl rfl) <| Y.v (Y.m rfl) <| Y.v (Y.x rfl rfl rfl rfl) <| Y.v (Y.c (H.ldS (by assumption) (by assumption)) rfl) ?_
 refine Y.v (Y.s rfl rfl) <| Y.v (Ev.asI rfl) <| OPS.nil_s <| Y.qr ?_
 obtain ⟨_, _, e1, a0, a1, a2, a3, a4, a5, _⟩ := rowsOwn' stepCells_len H 7 rfl b (by rw [hok.slen]; exact hb)
 cases e1
 obtain ⟨_, _, e1, hdd⟩ := onesOwn H 8 rfl b (by rw [hok.dlen]; exact hb)
 cases e1
 refine Y.v (Y.l H 3 rfl rfl rfl) <| Y.v (Y.m rfl) <| Y.v (Y.X rfl rfl rfl rfl rfl) <| Y.v (Y.f rfl rfl) <| Y.v (Y.c (by assumption) rfl) ?_
 refine Y.v (Ev.not rfl) <| Y.v (Ev.mvB rfl) <| Y.g rfl rfl (fun hg => Y.m rfl) <| Y.g rfl rfl (fun hg => Y.l H 4 rfl rfl rfl) <| Y.g rfl rfl (fun hg => Y.m rfl) <| Y.g rfl rfl (fun hg => Ev.indexAddr1 (el_run rfl) (size_run rfl) (gvE hg rfl) (gvE hg rfl) rfl (by omega)) <| Y.g rfl rfl (fun hg => Ev.load1 (agg_run rfl) (gvE hg rfl) (by assumption)) ?_
 refine Y.g rfl rfl (fun hg => Ev.lss (gvE hg rfl) (gvE hg rfl)) <| Y.v (Ev.pickOr rfl rfl rfl) <| Y.z ?_
 refine WP.cond rfl (fun hc2 => ?_) (fun hc2 => ?_)
 ·have hcc : nVisC a xd pots done s a b cost = true := by
   unfold nVisC
   rw [hdb, hs1, hd1, hdf, hpa, hpb]
   simpa using hc2
  refine Y.q ?_
  have Hf := H
  replace H := H.reidx (L' := nVars g n a xd (some ⟨bp, op, none⟩) n capp) [0, 1, 2, 3, 4, 5] (by decide) rfl
  unfold nVars at H
  have hpu1 : putL (s.sts.flatMap stepCells) (0 + b * 6) (stepCells ⟨a, arc, room, fwd, true, 0⟩) = (s.sts.set b ⟨a, arc, room, fwd, true, 0⟩).flatMap stepCells := by rw [Nat.zero_add]; exact putL_rows stepCells_len s.sts b _ (by rw [hok.slen]; exact hb)
  have hpu2 : putL (s.dist.map I) (0 + b) [I (xd + cost + pots[a] - pots[b])] = (s.dist.set b (xd + cost + pots[a] - pots[b])).map I := by rw [Nat.zero_add]; exact putL_ones s.dist b _
  refine WP.rheldC [57, 58, 59, 60, 61, 62, 63, 64, 65, 66, 67, 68] (fun _ w' => SH w0 S w' (nLv g n a xd (some ⟨bp, op, none⟩) n capp done ⟨s.sts.set b ⟨a, arc, room, fwd, true, 0⟩, s.dist.set b (xd + cost + pots[a] - pots[b]), s.h, s.p, s.A, s.cap, s.Lo⟩)) mixed H ?_ ?_
  ·clear H; intro w hbw3 H
   refine Y.t 0 H rfl rfl (fun w H => Y.l H 3 rfl rfl rfl) <| Y.t 1 H rfl rfl (fun w H => Y.m rfl) <| Y.t 2 H rfl rfl (fun w H => Y.l H 4 rfl rfl rfl) <| Y.t 3 H rfl rfl (fun w H => Y.m rfl) <| Y.t 4 H rfl rfl (fun w H => Y.m rfl) <| Y.t 5 H rfl rfl (fun w H => Y.m rfl) <| Y.t 6 H rfl rfl (fun w H => Y.m rfl) <| Y.t 7 H rfl rfl (fun w H => Ev.mvB rfl) <| Y.t 8 H rfl rfl (fun w H => Ev.build (bld_116_0_1_2_3_4 rfl rfl rfl rfl rfl)) <| Y.t 9 H rfl rfl (fun w H => Y.m rfl) <| Y.t 10 H rfl rfl (fun w H => Y.X rfl rfl rfl rfl rfl) ?_
   refine Y.A [11] rfl ⟨⟨_, rfl, ?_⟩, trivial⟩
   try replace Hf := Hf.toBelow hbw3
   refine OPS.store (vs := stepCells ⟨a, arc, room, fwd, true, 0⟩) 7 _ rfl rfl rfl (size_run rfl) rfl (cA rfl) rfl rfl Hf rfl (by simp only [rows_length stepCells_len, hok.slen]; omega) ?_
   clear H Hf; intro w Hf
   simp only [List.set_cons_zero, List.set_cons_succ] at Hf
   rw [hpu1] at Hf
   have H := Hf.reidx (L' := nVars g n a xd (some ⟨bp, op, none⟩) n capp) [0, 1, 2, 3, 4, 5] (by decide) rfl
   unfold nVars at H
   refine Y.z <| ⟨(H), ?_⟩
   refine Y.t 12 H rfl rfl (fun w H => Y.x rfl rfl rfl rfl) ?_
   refine Y.A [13] rfl ⟨⟨_, rfl, ?_⟩, trivial⟩
   try replace Hf := Hf.toBelow hbw3
   refine OPS.store (vs := [I (xd + cost + pots[a] - pots[b])]) 8 _ rfl rfl rfl (size_run rfl) rfl (cI rfl) rfl rfl Hf rfl (by simp only [List.length_map, hok.dlen]; omega) ?_
   clear H Hf; intro w Hf
   simp only [List.set_cons_zero, List.set_cons_succ] at Hf
   rw [hpu2] at Hf
   have H := Hf.reidx (L' := nVars g n a xd (some ⟨bp, op, none⟩) n capp) [0, 1, 2, 3, 4, 5] (by decide) rfl
   unfold nVars at H
   refine Y.z <| ⟨(H), ?_⟩
   refine OPH.done (by kernel_rfl) ?_
   exact ⟨(by repeat (first | exact Agree.refl _ _ | exact Agree.mix _ _ _ | refine Agree.upd rfl ?_ | refine Agree.mix2 rfl ?_)), Hf⟩
  clear H
  rintro u w H
  refine Y.r <| Y.v (Y.l H 5 rfl rfl rfl) <| Y.v (Y.m rfl) <| Y.v (Y.m rfl) <| Y.v (Ev.build (bld_146_0_1 rfl rfl)) <| OPS.call (d := some 73) rfl rfl rfl (EvC.func (fun_run rfl)) (qPush g.gq s.cap s.A s.p _ _ s.h s.Lo w (qLv g.gq s.A s.cap s.h s.p s.Lo |>.map (·.g)) hok.own hok.heap hl hpp (H.restart ((List.sublist_append_right _ _).trans (List.sublist_append_right _ _)))) ?_
  rintro _ w ⟨rfl, A', cap', h', Lo', hpm, hh', hO', H2⟩
  refine ⟨_, rfl, ?_⟩
  replace H := SH.call (Lv := qLv g.gq s.A s.cap s.h s.p s.Lo) (L1 := nVars g n a xd (some ⟨bp, op, none⟩) n capp ++ [⟨g.gD, 4, done.map Bo⟩, ⟨g.gS, 116, (s.sts.set b ⟨a, arc, room, fwd, true, 0⟩).flatMap stepCells⟩, ⟨g.gI, 3, (s.dist.set b (xd + cost + pots[a] - pots[b])).map I⟩]) (by rw [List.append_assoc]; exact H) H2
  rw [List.append_assoc] at H
  have hres : ∃ s', NVis a xd pots done a b arc room cost fwd s s' ∧ NStOk n s' ∧ SH w0 S w (nLv g n a xd (some ⟨bp, op, none⟩) n capp done s') := by
   refine ⟨⟨s.sts.set b ⟨a, arc, room, fwd, true, 0⟩, s.dist.set b (xd + cost + pots[a] - pots[b]), h', s.p + 1, A', cap', Lo'⟩, ?_, ⟨by simp [hok.slen], by simp [hok.dlen], hO', hh'⟩, H⟩
   unfold NVis
   rw [if_pos hcc, hpa, hpb]
   exact ⟨rfl, rfl, hpm, rfl⟩
  refine Y.z <| ⟨_, rfl, ?_⟩
  exact ⟨rfl, hres⟩
 have hcc : nVisC a xd pots done s a b cost = false := by
  unfold nVisC
  rw [hdb, hs1, hd1, hdf, hpa, hpb]
  simpa using hc2
 have hres : ∃ s', NVis a xd pots done a b arc room cost fwd s s' ∧ NStOk n s' ∧ SH w0 S w (nLv g n a xd (some ⟨bp, op, none⟩) n capp done s') := ⟨s, by unfold NVis; rw [if_neg (by rw [hcc]; simp)]; exact ⟨rfl, rfl, rfl, rfl⟩, hok, H⟩
 refine Y.k <| ⟨_, rfl, ?_⟩
 exact ⟨rfl, hres⟩
end Go.Proofs.Ytgjfjbphngamgaa.Flo

/-
 Plain: costs of flows; potentials that prove a cost; further units cost no less.
-/
set_option linter.all false
namespace Go.Proofs.Ytgjfjbphngamgaa.Flo
open Go Go.W
def costOf : List Arc → List Int → Int
 | a :: l, x :: on => x * a.cost + costOf l on
 | _, _ => 0
def rc (p : Int → Int) (a : Arc) : Int := a.cost + p a.f - p a.t
/-- the potentials prove the cost -/
def OptPot (p : Int → Int) (l : List Arc) (on : List Int) : Prop := ∀ i (h : i < l.length) (h2 : i < on.length), (on[i] < l[i].cap → 0 ≤ rc p l[i]) ∧ (0 < on[i] → rc p l[i] ≤ 0)
/-- a number per arc -/
def lin (c : Arc → Int) : List Arc → List Int → Int
 | a :: l, x :: on => x * c a + lin c l on
 | _, _ => 0
theorem costOf_lin : ∀ (l : List Arc) (on : List Int), costOf l on = lin (·.cost) l on
 | [], _ => by simp [costOf, lin]
 | _ :: _, [] => by simp [costOf, lin]
 | a :: l, x :: on => by simp only [costOf, lin]; rw [costOf_lin l on]
theorem lin_rc (p : Int → Int) : ∀ (l : List Arc) (on : List Int), lin (rc p) l on = costOf l on + netOut p l on
 | [], _ => by simp [costOf, lin, netOut]
 | _ :: _, [] => by simp [costOf, lin, netOut]
 | a :: l, x :: on => by
  simp only [costOf, lin, netOut]
  rw [lin_rc p l on]
  have : x * rc p a = x * a.cost + x * (p a.f - p a.t) := by rw [← Int.mul_add]; congr 1; unfold rc; omega
  omega
theorem lin_congr (c : Arc → Int) : ∀ (l : List Arc) (on on' : List Int), on.length = l.length → on'.length = l.length → (∀ i (h : i < l.length) (h2 : i < on.length) (h3 : i < on'.length), on'[i] = on[i] ∨ c l[i] = 0) → lin c l on' = lin c l on
 | [], _, _, _, _, _ => by simp [lin]
 | a :: l, [], _, h, _, _ => by simp at h
 | a :: l, _ :: _, [], _, h, _ => by simp at h
 | a :: l, x :: on, y :: on', h1, h2, h => by
  simp only [lin]
  rw [lin_congr c l on on' (by simpa using h1) (by simpa using h2) fun i q1 q2 q3 => h (i + 1) (Nat.succ_lt_succ q1) (Nat.succ_lt_succ q2) (Nat.succ_lt_succ q3)]
  have h0 := h 0 (by simp) (by simp) (by simp)
  simp only [List.getElem_cons_zero] at h0
  rcases h0 with h0 | h0 <;> rw [h0]
  simp
/-- what a potential says of flows of one amount: only the ends count -/
theorem netOut_ends {n : Nat} {l : List Arc} {s t : Int} {on : List Int} {amt : Int} (hf : IsFlow n l s t on amt) (hn : NodesOk n l) (hs : 0 ≤ s ∧ s < n) (ht : 0 ≤ t ∧ t < n) (hst : s ≠ t) (p : Int → Int) : netOut p l on = amt * (p s - p t) := by
 have key : ∀ p : Int → Int, p t = 0 → netOut p l on = amt * p s := by
  intro p hp
  rw [netOut_sum n p l on hn, sumTo_single _ s n hs.1 hs.2 fun u h0 h1 h2 => ?_, hf.amt, Int.mul_comm]
  by_cases hu : u = t
  ·subst hu; rw [hp]; simp
  ·rw [hf.cons u h0 h1 h2 hu]; simp
 have hconst : ∀ (c : Int) (l : List Arc) (on : List Int), netOut (fun u => p u - c) l on = netOut p l on := by
  intro c l
  induction l with
  | nil => intro on; simp [netOut]
  | cons a l ih =>
   intro on
   cases on with
   | nil => simp [netOut]
   | cons x on => simp only [netOut]; rw [ih, show p a.f - c - (p a.t - c) = p a.f - p a.t by omega]
 rw [← hconst (p t), key _ (by omega)]
theorem lin_diff (p : Int → Int) : ∀ (l : List Arc) (x y : List Int), VFlow l x → VFlow l y → OptPot p l x → lin (rc p) l x ≤ lin (rc p) l y
 | [], _, _, _, _, _ => by simp [lin]
 | a :: l, [], _, h, _, _ => by have := h.len; simp at this
 | a :: l, _ :: _, [], _, h, _ => by have := h.len; simp at this
 | a :: l, x :: xs, y :: ys, hx, hy, ho => by
  simp only [lin]
  have ih := lin_diff p l xs ys ⟨by simpa using hx.len, fun i h h2 => hx.bd (i + 1) (Nat.succ_lt_succ h) (Nat.succ_lt_succ h2)⟩ ⟨by simpa using hy.len, fun i h h2 => hy.bd (i + 1) (Nat.succ_lt_succ h) (Nat.succ_lt_succ h2)⟩ fun i h h2 => ho (i + 1) (Nat.succ_lt_succ h) (Nat.succ_lt_succ h2)
  have hx0 := hx.bd 0 (by simp) (by simp)
  have hy0 := hy.bd 0 (by simp) (by simp)
  have ho0 := ho 0 (by simp) (by simp)
  simp only [List.getElem_cons_zero] at hx0 hy0 ho0
  have : x * rc p a ≤ y * rc p a := by
   rcases Int.lt_trichotomy (rc p a) 0 with h | h | h
   ·have hxc : x = a.cap := by rcases Int.lt_or_eq_of_le hx0.2 with q | q; have := ho0.1 q; omega; exact q
    subst hxc
    exact Int.mul_le_mul_of_nonpos_right hy0.2 (by omega)
   ·rw [h]; simp
   ·have hxc : x = 0 := by rcases Int.lt_or_eq_of_le hx0.1 with q | q; have := ho0.2 q; omega; exact q.symm
    subst hxc
    rw [Int.zero_mul]
    exact Int.mul_nonneg hy0.1 (by omega)
  omega
/-- the proved flow costs no more, but for what further units cost by the potentials -/
theorem opt_le {n : Nat} {l : List Arc} {s t : Int} {x y : List Int} {a b : Int} {p : Int → Int} (hx : IsFlow n l s t x a) (hy : IsFlow n l s t y b) (ho : OptPot p l x) (hn : NodesOk n l) (hs : 0 ≤ s ∧ s < n) (ht : 0 ≤ t ∧ t < n) (hst : s ≠ t) :
  costOf l x + (b - a) * (p t - p s) ≤ costOf l y := by
 have h := lin_diff p l x y hx.v hy.v ho
 rw [lin_rc, lin_rc, netOut_ends hx hn hs ht hst, netOut_ends hy hn hs ht hst] at h
 have e : (b - a) * (p t - p s) = a * (p s - p t) - b * (p s - p t) := by rw [← Int.sub_mul, show p t - p s = -(p s - p t) by omega, Int.mul_neg, ← Int.neg_mul, Int.neg_sub]
 omega
/-- THE LEAST COST of an amount -/
def IsLeast (n : Nat) (l : List Arc) (s t amt c : Int) : Prop := (∃ on, IsFlow n l s t on amt ∧ costOf l on = c) ∧ ∀ on, IsFlow n l s t on amt → c ≤ costOf l on
theorem least_of {n : Nat} {l : List Arc} {s t : Int} {x : List Int} {a : Int} {p : Int → Int} (hx : IsFlow n l s t x a) (ho : OptPot p l x) (hn : NodesOk n l) (hs : 0 ≤ s ∧ s < n) (ht : 0 ≤ t ∧ t < n) (hst : s ≠ t) : IsLeast n l s t a (costOf l x) :=
 ⟨⟨x, hx, rfl⟩, fun y hy => by have := opt_le hx hy ho hn hs ht hst; simpa using this⟩
end Go.Proofs.Ytgjfjbphngamgaa.Flo

/-
 Plain: the search for the nearest nodes by reduced costs.
-/
set_option linter.all false
namespace Go.Proofs.Ytgjfjbphngamgaa.Flo
open Go Go.W
def dAt (d : List Int) (v : Nat) : Int := d.getD v 0
def dnB (d : List Bool) (v : Nat) : Bool := d.getD v false
/-- arc i, forwards or backwards, can take r more from u to v, at reduced cost w -/
def REdge (p : Int → Int) (l : List Arc) (on : List Int) (i : Nat) (fw : Bool) (u v : Nat) (r w : Int) : Prop := ∃ (h : i < l.length) (h2 : i < on.length),
 (fw = true → l[i].f = u ∧ l[i].t = v ∧ r = l[i].cap - on[i] ∧ on[i] < l[i].cap ∧ w = rc p l[i]) ∧ (fw = false → l[i].t = u ∧ l[i].f = v ∧ r = on[i] ∧ 0 < on[i] ∧ w = -rc p l[i])
theorem REdge.same {p : Int → Int} {l : List Arc} {on : List Int} {i : Nat} {fw : Bool} {u v u' v' : Nat} {r w r' w' : Int} (h : REdge p l on i fw u v r w) (h' : REdge p l on i fw u' v' r' w') : u = u' ∧ v = v' ∧ w = w' := by
 obtain ⟨_, _, a, b⟩ := h
 obtain ⟨_, _, a', b'⟩ := h'
 cases fw with
 | true => have := a rfl; have := a' rfl; omega
 | false => have := b rfl; have := b' rfl; omega
theorem REdge.nonneg {p : Int → Int} {l : List Arc} {on : List Int} (ho : OptPot p l on) {i : Nat} {fw : Bool} {u v : Nat} {r w : Int} (h : REdge p l on i fw u v r w) : 0 ≤ w := by
 obtain ⟨h1, h2, a, b⟩ := h
 have := ho i h1 h2
 cases fw with
 | true => have q := a rfl; have := this.1 q.2.2.2.1; omega
 | false => have q := b rfl; have := this.2 q.2.2.2.1; omega
theorem REdge.edge {p : Int → Int} {l : List Arc} {on : List Int} {i : Nat} {fw : Bool} {u v : Nat} {r w : Int} (h : REdge p l on i fw u v r w) {d : Int} {k : Bool} : Edge l on ⟨u, i, r, fw, k, d⟩ u v := by
 obtain ⟨h1, h2, a, b⟩ := h
 exact ⟨rfl, i, rfl, h1, h2, fun hf => ⟨(a hf).1, (a hf).2.1, (a hf).2.2.1, (a hf).2.2.2.1⟩, fun hf => ⟨(b hf).1, (b hf).2.1, (b hf).2.2.1, (b hf).2.2.2.1⟩⟩
theorem openN_le : ∀ l : List Bool, openN l ≤ l.length := fun l => by unfold openN; exact List.length_filter_le _ _
structure DI (p : Int → Int) (l : List Arc) (on : List Int) (n s x : Nat) (Pr : Nat → Bool → Prop) (st : NSt) (done : List Bool) (rk : Nat → Int) (D : Int) : Prop where
 slen : st.sts.length = n
 dlen : st.dist.length = n
 olen : done.length = n
 src : kn st.sts s = true ∧ dAt st.dist s = 0
 nn : ∀ v, v < n → kn st.sts v = true → 0 ≤ dAt st.dist v
 par : ∀ v, v < n → kn st.sts v = true → v ≠ s → ∃ u i fw r w, u < n ∧ dnB done u = true ∧ REdge p l on i fw u v r w ∧ st.sts.getD v default = ⟨u, i, r, fw, true, 0⟩ ∧ dAt st.dist v = dAt st.dist u + w ∧ (dnB done v = true → rk u < rk v)
 dn : ∀ v, v < n → dnB done v = true → kn st.sts v = true ∧ 0 ≤ rk v ∧ rk v < (n : Int) - openN done
 bd : ∀ v, v < n → dnB done v = true → dAt st.dist v + p v ≤ 65536 * rk v
 bd2 : ∀ v, v < n → kn st.sts v = true → dnB done v = false → dAt st.dist v + p v ≤ 65536 * ((n : Int) - openN done)
 ent : ∀ y ∈ st.h, ∃ v : Nat, v < n ∧ y.node = v ∧ kn st.sts v = true ∧ dAt st.dist v ≤ y.dist
 live : ∀ v, v < n → kn st.sts v = true → dnB done v = false → ∃ y ∈ st.h, y.node = v ∧ y.dist = dAt st.dist v
 low : ∀ v, v < n → dnB done v = true → dAt st.dist v ≤ D
 low2 : ∀ y ∈ st.h, D ≤ y.dist
 clo : ∀ i fw u v r w, REdge p l on i fw u v r w → v < n → dnB done u = true → (u ≠ x ∨ Pr i fw) → kn st.sts v = true ∧ dAt st.dist v ≤ dAt st.dist u + w
section
variable {p : Int → Int} {l : List Arc} {on : List Int} {n s x : Nat} {Pr : Nat → Bool → Prop} {st : NSt} {done : List Bool} {rk : Nat → Int} {D : Int}
theorem DI.pr (h : DI p l on n s x Pr st done rk D) {Pr' : Nat → Bool → Prop} (hp : ∀ i fw u v r w, REdge p l on i fw u v r w → Pr' i fw → Pr i fw) : DI p l on n s x Pr' st done rk D :=
 { h with clo := fun i fw u v r w hE hv hd hx => h.clo i fw u v r w hE hv hd (hx.imp id (hp i fw u v r w hE)) }
theorem dAt_set {d : List Int} {b v : Nat} {y : Int} (hb : b < d.length) : dAt (d.set b y) v = if b = v then y else dAt d v := by
 unfold dAt
 by_cases h : b = v
 ·subst h; simp [hb]
 ·simp [h, List.getElem?_set]
theorem dnB_set {d : List Bool} {b v : Nat} {y : Bool} (hb : b < d.length) : dnB (d.set b y) v = if b = v then y else dnB d v := by
 unfold dnB
 by_cases h : b = v
 ·subst h; simp [hb]
 ·simp [h, List.getElem?_set]
theorem kn_set {sts : List Step} {b v : Nat} {y : Step} (hb : b < sts.length) : kn (sts.set b y) v = if b = v then y.known else kn sts v := by
 unfold kn
 rw [getD_set hb]; split <;> rfl
theorem DI.init (hs : s < n) (hp : p s ≤ 0) {A : Option Addr} {cap : Nat} {Lo : List Blk} {q : Int} : DI p l on n s x Pr ⟨reachInit n s, List.replicate n 0, [⟨s, 0, 0⟩], q, A, cap, Lo⟩ (List.replicate n false) (fun _ => 0) 0 := by
 have hk : ∀ v, v < n → (kn (reachInit n s) v = true → v = s) := fun v hv hk => by
  unfold reachInit at hk
  rw [kn_set (by simpa using hs)] at hk
  by_cases h : s = v
  ·exact h.symm
  ·rw [if_neg h] at hk; simp [kn, hv] at hk
 have hks : kn (reachInit n s) s = true := by
  unfold reachInit
  rw [kn_set (by simpa using hs), if_pos rfl]
 have hd : ∀ v, v < n → dAt (List.replicate n 0) v = 0 := fun v hv => by simp [dAt, hv]
 have hn : ∀ v, v < n → dnB (List.replicate n false) v = false := fun v hv => by simp [dnB, hv]
 have ho : openN (List.replicate n false) = n := by simp [openN]
 refine ⟨by simp [reachInit], by simp, by simp, ⟨hks, hd s hs⟩, fun v hv _ => by rw [hd v hv]; omega, fun v hv h1 h2 => absurd (hk v hv h1) h2, fun v hv h1 => (by rw [hn v hv] at h1; cases h1), fun v hv h1 => (by rw [hn v hv] at h1; cases h1),
  fun v hv h1 _ => ?_, fun y hy => ?_, fun v hv h1 _ => ?_, fun v hv h1 => (by rw [hn v hv] at h1; cases h1), fun y hy => ?_, fun i fw u v r w hE hv h1 _ => ?_⟩
 ·have := hk v hv h1; subst this
  rw [ho]
  have := hd v hv
  simp only [this]; omega
 ·simp only [List.mem_cons, List.not_mem_nil, or_false] at hy
  subst hy
  exact ⟨s, hs, rfl, hks, by simp only [hd s hs]; omega⟩
 ·have := hk v hv h1; subst this
  exact ⟨_, List.mem_cons_self .., rfl, (hd v hv).symm⟩
 ·simp only [List.mem_cons, List.not_mem_nil, or_false] at hy
  subst hy; exact Int.le_refl _
 ·by_cases hu : u < n
  ·rw [hn u hu] at h1; cases h1
  ·simp [dnB, hu] at h1
/-- an entry of a node that is done is dropped -/
theorem DI.stale (h : DI p l on n s x Pr st done rk D) {y : Ent} {h' : List Ent} (hp : (y :: h').Perm st.h) {v : Nat} (hy : y.node = v) (hv : dnB done v = true) {A : Option Addr} {cap : Nat} {Lo : List Blk} {q : Int} : DI p l on n s x Pr ⟨st.sts, st.dist, h', q, A, cap, Lo⟩ done rk D :=
 { h with
  ent := fun z hz => h.ent z (hp.subset (List.mem_cons_of_mem _ hz))
  live := fun u hu h1 h2 => by
   obtain ⟨z, hz, h3, h4⟩ := h.live u hu h1 h2
   rcases List.mem_cons.1 (hp.symm.subset hz) with rfl | hz
   ·have : u = v := by omega
    subst this; rw [hv] at h2; cases h2
   ·exact ⟨z, hz, h3, h4⟩
  low2 := fun z hz => h.low2 z (hp.subset (List.mem_cons_of_mem _ hz)) }
/-- the nearest node is done -/
theorem DI.fresh (h : DI p l on n s x (fun _ _ => True) st done rk D) {y : Ent} {h' : List Ent} (hp : (y :: h').Perm st.h) (hmin : ∀ z ∈ st.h, y.dist ≤ z.dist) {v : Nat} (hy : y.node = v) (hvn : v < n) (hv : dnB done v = false) {A : Option Addr} {cap : Nat} {Lo : List Blk} {q : Int} :
  y.dist = dAt st.dist v ∧ DI p l on n s v (fun _ _ => False) ⟨st.sts, st.dist, h', q, A, cap, Lo⟩ (done.set v true) (fun u => if u = v then (n : Int) - openN done else rk u) y.dist := by
 have hmem : y ∈ st.h := hp.subset (List.mem_cons_self ..)
 obtain ⟨v', hv', e1, hk, hle⟩ := h.ent y hmem
 have e2 : v' = v := by omega
 subst e2
 obtain ⟨z, hz, z1, z2⟩ := h.live v' hvn hk hv
 have hyd : y.dist = dAt st.dist v' := by have := hmin z hz; omega
 have hvl : v' < done.length := by rw [h.olen]; exact hvn
 have hopen := openN_set done v' hvl hv
 have hdn : ∀ u, dnB (done.set v' true) u = true → u ≠ v' → dnB done u = true := fun u hu hne => by rw [dnB_set hvl, if_neg (Ne.symm hne)] at hu; exact hu
 have hdn2 : ∀ u, dnB done u = true → dnB (done.set v' true) u = true ∧ u ≠ v' := fun u hu => by
  rw [dnB_set hvl]
  refine ⟨by split; rfl; exact hu, fun he => ?_⟩
  subst he; rw [hv] at hu; cases hu
 have hdn3 : ∀ u, dnB (done.set v' true) u = false → dnB done u = false ∧ u ≠ v' := fun u hu => by
  rw [dnB_set hvl] at hu
  split at hu
  ·cases hu
  ·rename_i hne; exact ⟨hu, Ne.symm hne⟩
 refine ⟨hyd, ⟨h.slen, h.dlen, by simp [h.olen], h.src, h.nn, fun u hu h1 h2 => ?_, fun u hu h1 => ?_, fun u hu h1 => ?_, fun u hu h1 h2 => ?_, fun z hz => h.ent z (hp.subset (List.mem_cons_of_mem _ hz)), fun u hu h1 h2 => ?_, fun u hu h1 => ?_, fun z hz => hmin z (hp.subset (List.mem_cons_of_mem _ hz)), fun i fw a b r w hE hb h1 h2 => ?_⟩⟩
 ·obtain ⟨a, i, fw, r, w, ha, hda, hE, hs, hd, hr⟩ := h.par u hu h1 h2
  obtain ⟨q1, q2⟩ := hdn2 a hda
  refine ⟨a, i, fw, r, w, ha, q1, hE, hs, hd, fun hdu => ?_⟩
  simp only [if_neg q2]
  by_cases he : u = v'
  ·rw [if_pos he]; exact (h.dn a ha hda).2.2
  ·rw [if_neg he]; exact hr (hdn u hdu he)
 ·by_cases he : u = v'
  ·subst he; simp only [if_true]
   have := openN_le done; rw [h.olen] at this
   exact ⟨hk, by omega, by omega⟩
  ·simp only [if_neg he]
   obtain ⟨q1, q2, q3⟩ := h.dn u hu (hdn u h1 he)
   exact ⟨q1, q2, by omega⟩
 ·by_cases he : u = v'
  ·subst he; simp only [if_true]; exact h.bd2 u hu hk hv
  ·simp only [if_neg he]; exact h.bd u hu (hdn u h1 he)
 ·have := h.bd2 u hu h1 (hdn3 u h2).1
  simp only at this ⊢; omega
 ·obtain ⟨q1, q2⟩ := hdn3 u h2
  obtain ⟨z, hz, z1, z2⟩ := h.live u hu h1 q1
  rcases List.mem_cons.1 (hp.symm.subset hz) with rfl | hz
  ·exact absurd (by omega) q2
  ·exact ⟨z, hz, z1, z2⟩
 ·by_cases he : u = v'
  ·subst he; exact Int.le_of_eq hyd.symm
  ·exact Int.le_trans (h.low u hu (hdn u h1 he)) (h.low2 y hmem)
 ·rcases h2 with h2 | h2
  ·exact h.clo i fw a b r w hE hb (hdn a h1 h2) (.inr trivial)
  ·exact h2.elim
/-- one visit -/
theorem DI.visit (h : DI p l on n s x Pr st done rk D) (ho : OptPot p l on) {i : Nat} {fw : Bool} {a b : Nat} {r w cost : Int} {pots : List Int} (hE : REdge p l on i fw a b r w) (hx : x < n) (hdx : dnB done x = true) (hD : D = dAt st.dist x) (hb : b < n)
  (hw : w = cost + pots.getD a 0 - pots.getD b 0) (hpa : pots.getD a 0 = p a) (hpb : pots.getD b 0 = p b) (hc : cost ≤ 65536) {st' : NSt} (hV : NVis x (dAt st.dist x) pots done a b i r cost fw st st') :
  DI p l on n s x (fun j f => Pr j f ∨ (j = i ∧ f = fw)) st' done rk D := by
 have hw0 := hE.nonneg ho
 have hxd := h.dn x hx hdx
 have hnx := h.nn x hx hxd.1
 unfold NVis at hV
 by_cases hcc : nVisC x (dAt st.dist x) pots done st a b cost = true
 ·rw [if_pos hcc] at hV
  obtain ⟨e1, e2, e3, _⟩ := hV
  unfold nVisC at hcc
  simp only [Bool.and_eq_true, Bool.or_eq_true, Bool.not_eq_true', decide_eq_true_eq] at hcc
  obtain ⟨⟨hax, hdb⟩, hor⟩ := hcc
  subst hax
  generalize hd : dAt st.dist a + cost + pots.getD a 0 - pots.getD b 0 = d at *
  have hdw : d = dAt st.dist a + w := by omega
  have hor : kn st.sts b = false ∨ d < dAt st.dist b := hor
  have hdb : dnB done b = false := hdb
  have hba : b ≠ a := fun he => by rw [he, hdx] at hdb; cases hdb
  have hbs : b ≠ s := fun he => by
   subst he
   rcases hor with q | q
   ·rw [h.src.1] at q; cases q
   ·rw [h.src.2] at q; omega
  have hbl : b < st.sts.length := by rw [h.slen]; exact hb
  have hbl2 : b < st.dist.length := by rw [h.dlen]; exact hb
  have k1 : ∀ v, v ≠ b → kn st'.sts v = kn st.sts v := fun v hv => by rw [e1, kn_set hbl, if_neg (Ne.symm hv)]
  have k2 : kn st'.sts b = true := by rw [e1, kn_set hbl, if_pos rfl]
  have d1 : ∀ v, v ≠ b → dAt st'.dist v = dAt st.dist v := fun v hv => by rw [e2, dAt_set hbl2, if_neg (Ne.symm hv)]
  have d2 : dAt st'.dist b = d := by rw [e2, dAt_set hbl2, if_pos rfl]
  have s1 : ∀ v, v ≠ b → st'.sts.getD v default = st.sts.getD v default := fun v hv => by rw [e1, getD_set hbl, if_neg (Ne.symm hv)]
  have s2 : st'.sts.getD b default = ⟨a, i, r, fw, true, 0⟩ := by rw [e1, getD_set hbl, if_pos rfl]
  have hnb : ∀ u, dnB done u = true → u ≠ b := fun u hu he => by rw [he, hdb] at hu; cases hu
  refine ⟨by rw [e1]; simp [h.slen], by rw [e2]; simp [h.dlen], h.olen, ⟨by rw [k1 s (Ne.symm hbs)]; exact h.src.1, by rw [d1 s (Ne.symm hbs)]; exact h.src.2⟩, fun v hv hk => ?_, fun v hv hk hvs => ?_, fun v hv hdv => ?_, fun v hv hdv => ?_, fun v hv hk hdv => ?_, fun y hy => ?_, fun v hv hk hdv => ?_, fun v hv hdv => ?_, fun y hy => ?_, fun j f u v r' w' hE' hv hdu hor' => ?_⟩
  ·by_cases hvb : v = b
   ·subst hvb; rw [d2]; omega
   ·rw [d1 v hvb]; exact h.nn v hv (by rw [← k1 v hvb]; exact hk)
  ·by_cases hvb : v = b
   ·subst hvb
    exact ⟨a, i, fw, r, w, hx, hdx, hE, s2, by rw [d2, d1 a (Ne.symm hba)]; exact hdw, fun q => by rw [hdb] at q; cases q⟩
   ·obtain ⟨u, j, f, r', w', q1, q2, q3, q4, q5, q6⟩ := h.par v hv (by rw [← k1 v hvb]; exact hk) hvs
    exact ⟨u, j, f, r', w', q1, q2, q3, by rw [s1 v hvb]; exact q4, by rw [d1 v hvb, d1 u (hnb u q2)]; exact q5, q6⟩
  ·obtain ⟨q1, q2, q3⟩ := h.dn v hv hdv
   exact ⟨by rw [k1 v (hnb v hdv)]; exact q1, q2, q3⟩
  ·rw [d1 v (hnb v hdv)]; exact h.bd v hv hdv
  ·by_cases hvb : v = b
   ·subst hvb
    have := h.bd a hx hdx
    rw [d2]; omega
   ·rw [d1 v hvb]; exact h.bd2 v hv (by rw [← k1 v hvb]; exact hk) hdv
  ·rcases List.mem_append.1 (e3.subset hy) with hy | hy
   ·obtain ⟨v, q1, q2, q3, q4⟩ := h.ent y hy
    by_cases hvb : v = b
    ·subst hvb
     refine ⟨v, q1, q2, k2, ?_⟩
     rcases hor with q | q
     ·rw [q3] at q; cases q
     ·rw [d2]; omega
    ·exact ⟨v, q1, q2, by rw [k1 v hvb]; exact q3, by rw [d1 v hvb]; exact q4⟩
   ·simp only [List.mem_cons, List.not_mem_nil, or_false] at hy
    subst hy
    exact ⟨b, hb, rfl, k2, by rw [d2]; exact Int.le_refl _⟩
  ·by_cases hvb : v = b
   ·subst hvb
    exact ⟨_, e3.symm.subset (List.mem_append_right _ (List.mem_cons_self ..)), rfl, d2.symm⟩
   ·obtain ⟨y, hy, q1, q2⟩ := h.live v hv (by rw [← k1 v hvb]; exact hk) hdv
    exact ⟨y, e3.symm.subset (List.mem_append_left _ hy), q1, by rw [d1 v hvb]; exact q2⟩
  ·rw [d1 v (hnb v hdv)]; exact h.low v hv hdv
  ·rcases List.mem_append.1 (e3.subset hy) with hy | hy
   ·exact h.low2 y hy
   ·simp only [List.mem_cons, List.not_mem_nil, or_false] at hy
    subst hy
    show D ≤ d
    omega
  ·rw [d1 u (hnb u hdu)]
   by_cases hnew : j = i ∧ f = fw
   ·obtain ⟨rfl, rfl⟩ := hnew
    obtain ⟨g1, g2, g3⟩ := hE'.same hE
    subst g1 g2 g3
    exact ⟨k2, by rw [d2]; omega⟩
   ·have hor2 : u ≠ a ∨ Pr j f := by rcases hor' with q | q | q; exact .inl q; exact .inr q; exact absurd q hnew
    obtain ⟨q1, q2⟩ := h.clo j f u v r' w' hE' hv hdu hor2
    by_cases hvb : v = b
    ·subst hvb
     refine ⟨k2, ?_⟩
     rcases hor with q | q
     ·rw [q1] at q; cases q
     ·rw [d2]; omega
    ·exact ⟨by rw [k1 v hvb]; exact q1, by rw [d1 v hvb]; exact q2⟩
 ·rw [if_neg hcc] at hV
  obtain ⟨e1, e2, e3, _⟩ := hV
  have hclo : ∀ j f u v r' w', REdge p l on j f u v r' w' → v < n → dnB done u = true → (u ≠ x ∨ (Pr j f ∨ (j = i ∧ f = fw))) → kn st.sts v = true ∧ dAt st.dist v ≤ dAt st.dist u + w' := fun j f u v r' w' hE' hv hdu hor' => by
   by_cases hnew : j = i ∧ f = fw
   ·obtain ⟨rfl, rfl⟩ := hnew
    obtain ⟨g1, g2, g3⟩ := hE'.same hE
    subst g1 g2 g3
    by_cases hux : u = x
    ·subst hux
     cases hdv : dnB done v with
     | true =>
      have := h.low v hv hdv
      exact ⟨(h.dn v hv hdv).1, by omega⟩
     | false =>
      have hdv' : done.getD v false = false := hdv
      unfold nVisC at hcc
      simp only [decide_true, hdv', Bool.not_false, Bool.and_self, Bool.true_and, Bool.or_eq_true, Bool.not_eq_true', decide_eq_true_eq, not_or, Bool.not_eq_false] at hcc
      obtain ⟨c1, c2⟩ := hcc
      refine ⟨c1, ?_⟩
      have c2 : ¬ dAt st.dist u + cost + pots.getD u 0 - pots.getD v 0 < dAt st.dist v := c2
      omega
    ·exact h.clo j f u v r' w' hE' hv hdu (.inl hux)
   ·exact h.clo j f u v r' w' hE' hv hdu (by rcases hor' with q | q | q; exact .inl q; exact .inr q; exact absurd q hnew)
  have hres : DI p l on n s x (fun j f => Pr j f ∨ (j = i ∧ f = fw)) st done rk D := { h with clo := hclo }
  obtain ⟨a1, a2, a3, a4, a5, a6, a7, a8, a9, a10, a11, a12, a13, a14⟩ := hres
  exact ⟨by rw [e1]; exact a1, by rw [e2]; exact a2, a3, by rw [e1, e2]; exact a4, by rw [e1, e2]; exact a5, by rw [e1, e2]; exact a6, by rw [e1]; exact a7, by rw [e2]; exact a8, by rw [e1, e2]; exact a9, by rw [e1, e2, e3]; exact a10, by rw [e1, e2, e3]; exact a11, by rw [e2]; exact a12, by rw [e3]; exact a13, by rw [e1, e2]; exact a14⟩
/-- what nearest gives -/
structure Near (p : Int → Int) (l : List Arc) (on : List Int) (n s : Nat) (sts : List Step) (dist : List Int) (rk : Nat → Int) : Prop where
 slen : sts.length = n
 dlen : dist.length = n
 src : kn sts s = true ∧ dAt dist s = 0
 nn : ∀ v, v < n → kn sts v = true → 0 ≤ dAt dist v
 bd : ∀ v, v < n → kn sts v = true → dAt dist v + p v ≤ 65536 * n
 rkb : ∀ v, v < n → kn sts v = true → 0 ≤ rk v ∧ rk v ≤ n
 par : ∀ v, v < n → kn sts v = true → v ≠ s → ∃ u i fw r w, u < n ∧ kn sts u = true ∧ REdge p l on i fw u v r w ∧ sts.getD v default = ⟨u, i, r, fw, true, 0⟩ ∧ dAt dist v = dAt dist u + w ∧ rk u < rk v
 clo : ∀ i fw u v r w, REdge p l on i fw u v r w → u < n → v < n → kn sts u = true → kn sts v = true ∧ dAt dist v ≤ dAt dist u + w
theorem DI.near (h : DI p l on n s x (fun _ _ => True) st done rk D) (he : st.h = []) : Near p l on n s st.sts st.dist rk := by
 have hall : ∀ v, v < n → kn st.sts v = true → dnB done v = true := fun v hv hk => by
  cases hd : dnB done v with
  | true => rfl
  | false =>
   obtain ⟨y, hy, _⟩ := h.live v hv hk hd
   rw [he] at hy; cases hy
 have hop : (0 : Int) ≤ openN done := by omega
 refine ⟨h.slen, h.dlen, h.src, h.nn, fun v hv hk => ?_, fun v hv hk => ?_, fun v hv hk hvs => ?_, fun i fw u v r w hE hu hv hk => h.clo i fw u v r w hE hv (hall u hu hk) (.inr trivial)⟩
 ·have h1 := h.bd v hv (hall v hv hk)
  have h2 := (h.dn v hv (hall v hv hk)).2.2
  omega
 ·have h2 := h.dn v hv (hall v hv hk)
  omega
 ·obtain ⟨u, i, fw, r, w, q1, q2, q3, q4, q5, q6⟩ := h.par v hv hk hvs
  exact ⟨u, i, fw, r, w, q1, (h.dn u q1 q2).1, q3, q4, q5, q6 (hall v hv hk)⟩
theorem Near.tree (h : Near p l on n s st.sts st.dist rk) : Tree rk l on n s st.sts := ⟨h.rkb, fun v hv hk hvs => by
 obtain ⟨u, i, fw, r, w, q1, q2, q3, q4, _, q6⟩ := h.par v hv hk hvs
 exact ⟨u, q1, q2, q6, by rw [q4]; exact q3.edge⟩⟩
end
end Go.Proofs.Ytgjfjbphngamgaa.Flo
