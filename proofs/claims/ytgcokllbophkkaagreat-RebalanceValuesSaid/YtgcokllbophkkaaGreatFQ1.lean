/-
 Walks: the priority queue of labels: less, before, swap, Len, Peek.
-/
import Derived.Test.YtgcokllbophkkaaGreatT22
import Derived.Test.YtgcokllbophkkaaGreatPtr
set_option linter.all false
set_option maxHeartbeats 4000000
namespace Go.Proofs.YtgcokllbophkkaaGreat.Flo
open Go Go.W Go.RowKit
structure Ent where
 node : Int
 dist : Int
 n : Int
instance : Inhabited Ent := ⟨⟨0, 0, 0⟩⟩
def ja9 (x : Ent) : List Value := [I x.node, I x.dist]
def j5 (x : Ent) : List Value := [I x.node, I x.dist, I x.n]
theorem j9 (x : Ent) : (j5 x).length = 3 := rfl
def q8 (A : Option Addr) (n cap : Nat) (p : Int) : List Value := [.func (.func 133) #[] #[], .slice A n cap, I p]
def jaB (x y : Ent) : Bool := decide (x.dist < y.dist) || (!decide (y.dist < x.dist) && decide (x.n < y.n))
theorem jk7 (a d b d2 : Int) (w0 : World) :
  Calls Tryz.prog 133 #[.agg #[I a, I d], .agg #[I b, I d2]] w0 fun e w' => e = .returned (.bool (decide (d < d2))) ∧ Below w0.heap.size w0 w' := by
 have H := SH.refl w0
 refine Calls.ofWP Tryz.func133 rfl Tryz.results133 Tryz.ntmps133 rfl<|Y.qr<|Y.bx (cA rfl) H ?_
 clear H; intro g2 w H
 refine Y.bx (cA rfl) H ?_
 clear H; intro g3 w H
 refine Y.aB rfl<|Y.z<|Y.qr<|Y.W H 1 rfl<|Y.W H 0 rfl<|Y.lt rfl<|Y.aB rfl<|Y.z ?_
 refine WP.ret ⟨_, rfl, ?_⟩
 exact ⟨rfl, H.below⟩
theorem qLen (gq n cap : Nat) (A : Option Addr) (p : Int) (w0 : World) (hq : jak w0 gq 0 (q8 A n cap p)) :
  Calls Tryz.prog 165 #[.pointer (some ⟨gq, 0, none⟩)] w0 fun e w' => e = .returned (I n) ∧ Below w0.heap.size w0 w' := by
 have H := SH.refl w0
 obtain ⟨q0, q1, q2, _⟩ := hq
 refine Calls.ofWP Tryz.func165 rfl Tryz.results165 Tryz.ntmps165 rfl<|Y.qr<|Y.bz rfl<|Y.qq<|Y.D rfl<|Y.v (Ev.eqlPn Tryz.runUnderlying198 rfl rfl)<|Y.z<|WP.cond_f rfl ?_
 refine Y.k<|Y.qr<|Y.D rfl<|Y.C rfl<|Y.F rfl<|Y.v (Y.c (H.ld0 (by assumption)) rfl) ?_
 refine Y.E rfl<|Y.bz rfl ?_
 refine WP.ret ⟨_, rfl, ?_⟩
 exact ⟨rfl, H.below⟩
theorem jhr (gq cap i k : Nat) (A : Option Addr) (p : Int) (h : List Ent) (w0 : World) (hq : jak w0 gq 0 (q8 A h.length cap p)) (hr : k8 3 j5 w0 A h) (hi : i < h.length) (hk : k < h.length) :
  Calls Tryz.prog 149 #[.pointer (some ⟨gq, 0, none⟩), I i, I k] w0 fun e w' => e = .returned (.bool (jaB h[i] h[k])) ∧ Below w0.heap.size w0 w' := by
 have H := SH.refl w0
 obtain ⟨q0, q1, q2, _⟩ := hq
 obtain ⟨b, o, rfl, hx⟩ := hr i hi
 obtain ⟨_, _, e1, hy⟩ := hr k hk
 cases e1
 refine Calls.ofWP Tryz.func149 rfl Tryz.results149 Tryz.ntmps149 rfl<|Y.qr<|Y.aB rfl<|Y.z<|Y.q ?_
 refine WP.rheldC [7, 8, 9, 10, 11, 12, 13, 14, 15, 16, 17, 18, 19, 20, 21, 22] (fun u w' => ∃ g7 g8, u 7 = .pointer (some ⟨g7, 0, none⟩) ∧ u 8 = .pointer (some ⟨g8, 0, none⟩) ∧ SH w0 [] w' [⟨g8, 225, j5 h[k]⟩, ⟨g7, 225, j5 h[i]⟩]) mixed H ?_ ?_
 ·clear H; intro w hbw1 H
  refine Y.t 0 H rfl rfl (fun w H => Ev.mvP rfl)<|Y.t 1 H rfl rfl (fun w H => Ev.nilCheckP rfl)<|Y.tf 2 H rfl<|Y.t 3 H rfl rfl (fun w H => Y.c (H.ld0 (by assumption)) rfl) ?_
  refine Y.t 4 H rfl rfl (fun w H => Y.m rfl)<|Y.t 5 H rfl rfl (fun w H => Y.X rfl rfl rfl rfl rfl) ?_
  refine OPH.take 6 rfl rfl rfl rfl (by kernel_rfl) (by kernel_rfl) (by kernel_rfl) rfl (by exact H) (fun w H => (by (change Ev _ _ _ _ (Op.load 225 (Operand.tmp 14)) _; refine Ev.loadN (b := b) (o := o + i * 3) (j5 h[i]) ?_ ?_ ?_ (k7 H hx); exact j6 rfl; exact j4 rfl; rfl))) ?_
  refine Y.t 7 H rfl rfl (fun w H => Ev.mvP rfl)<|Y.t 8 H rfl rfl (fun w H => Ev.nilCheckP rfl)<|Y.tf 9 H rfl<|Y.t 10 H rfl rfl (fun w H => Y.c (H.ld0 (by assumption)) rfl) ?_
  refine Y.t 11 H rfl rfl (fun w H => Y.m rfl)<|Y.t 12 H rfl rfl (fun w H => Y.X rfl rfl rfl rfl rfl) ?_
  refine OPH.take 13 rfl rfl rfl rfl (by kernel_rfl) (by kernel_rfl) (by kernel_rfl) rfl (by exact H) (fun w H => (by (change Ev _ _ _ _ (Op.load 225 (Operand.tmp 21)) _; refine Ev.loadN (b := b) (o := o + k * 3) (j5 h[k]) ?_ ?_ ?_ (k7 H hy); exact j6 rfl; exact j4 rfl; rfl))) ?_
  refine Y.A2 14 15 rfl rfl rfl ?_ ?_
  ·refine Y.al H rfl rfl ?_
   clear H; intro g7 w H
   refine Y.z <| ⟨(H.drop Y.sc), ?_⟩
   refine Y.A1 15 rfl rfl<|Y.al H rfl rfl ?_
   clear H; intro g8 w H
   refine Y.z <| ⟨(H.drop (Y.sc.trans Y.sc)), ?_⟩
   refine Y.A1 16 rfl rfl<|Y.ss 1 H rfl (cA rfl) rfl ?_
   clear H; intro w H
   refine Y.z <| ⟨(H.drop (Y.sc.trans Y.sc)), ?_⟩
   refine Y.A1 17 rfl rfl<|Y.ss 0 H rfl (cA rfl) rfl ?_
   clear H; intro w H
   refine Y.z <| ⟨(H.drop (Y.sc.trans Y.sc)), ?_⟩
   refine Y.dn ?_
   exact ⟨Y.ag, g7, g8, rfl, rfl, H⟩
  ·refine Y.al H rfl rfl ?_
   clear H; intro g8 w H
   refine Y.z <| ⟨(H.drop Y.sc), ?_⟩
   refine Y.A1 14 rfl rfl<|Y.al H rfl rfl ?_
   clear H; intro g7 w H
   refine Y.z <| ⟨(H.drop (Y.sc.trans Y.sc)), ?_⟩
   refine Y.A1 16 rfl rfl<|Y.ss 0 H rfl (cA rfl) rfl ?_
   clear H; intro w H
   refine Y.z <| ⟨(H.drop (Y.sc.trans Y.sc)), ?_⟩
   refine Y.A1 17 rfl rfl<|Y.ss 1 H rfl (cA rfl) rfl ?_
   clear H; intro w H
   refine Y.z <| ⟨(H.drop (Y.sc.trans Y.sc)), ?_⟩
   refine Y.dn ?_
   exact ⟨Y.ag, g7, g8, rfl, rfl, H.reidx [1, 0] (by decide) rfl⟩
 clear H
 rintro u w ⟨g7, g8, h7, h8, H⟩
 refine WP.know (t := 7) h7 (WP.know (t := 8) h8 ?_)
 refine Y.q<|WP.block<|Y.q<|WP.rquiet mixed (by kernel_rfl) H ?_
 clear H; intro w hbw2 H
 refine Y.D rfl<|Y.C rfl<|Y.F rfl<|Y.v (Y.c (H.ld0 (by assumption)) rfl) ?_
 refine Y.F rfl<|Y.v (Ev.loadN [_, _] (j6 rfl) (j4 rfl) rfl ⟨H.ldL 1 rfl _ rfl, H.ldL 1 rfl _ rfl, trivial⟩)<|Y.F rfl<|Y.v (Ev.loadN [_, _] (j6 rfl) (j4 rfl) rfl ⟨H.ldL 0 rfl _ rfl, H.ldL 0 rfl _ rfl, trivial⟩)<|OPS.callq rfl rfl rfl (EvC.clos rfl (z7 rfl)) (fun w2 hb2 => jk7 _ _ _ _ _) ?_
 refine Y.aB rfl<|OPS.nilq H ?_
 clear H; intro w hbx2 H
 refine WP.cond rfl (fun hc2 => ?_) (fun hc2 => ?_)
 ·refine Y.qr<|Y.aB rfl<|Y.z ?_
  refine WP.ret ⟨_, rfl, ?_⟩
  exact ⟨congrArg (fun b => Ending.returned (Bo b)) (show true = jaB h[i] h[k] from by simp only [jaB, hc2]; rfl), H.below⟩
 refine Y.q<|WP.rquiet mixed (by kernel_rfl) H ?_
 clear H; intro w hbw4 H
 refine Y.D rfl<|Y.C rfl<|Y.F rfl<|Y.v (Y.c (H.ld0 (by assumption)) rfl) ?_
 refine Y.F rfl<|Y.v (Ev.loadN [_, _] (j6 rfl) (j4 rfl) rfl ⟨H.ldL 0 rfl _ rfl, H.ldL 0 rfl _ rfl, trivial⟩)<|Y.F rfl<|Y.v (Ev.loadN [_, _] (j6 rfl) (j4 rfl) rfl ⟨H.ldL 1 rfl _ rfl, H.ldL 1 rfl _ rfl, trivial⟩)<|OPS.callq rfl rfl rfl (EvC.clos rfl (z7 rfl)) (fun w2 hb2 => jk7 _ _ _ _ _) ?_
 refine Y.aB rfl<|OPS.nilq H ?_
 clear H; intro w hbx4 H
 refine WP.cond rfl (fun hc4 => ?_) (fun hc4 => ?_)
 ·refine Y.qr<|Y.aB rfl<|Y.z ?_
  refine WP.ret ⟨_, rfl, ?_⟩
  exact ⟨congrArg (fun b => Ending.returned (Bo b)) (show false = jaB h[i] h[k] from by simp only [jaB, hc2, hc4]; rfl), H.below⟩
 refine Y.k<|Y.qr<|Y.W H 1 rfl<|Y.W H 0 rfl<|Y.lt rfl<|Y.aB rfl<|Y.z ?_
 refine WP.ret ⟨_, rfl, ?_⟩
 exact ⟨congrArg (fun b => Ending.returned (Bo b)) (show decide (h[i].n < h[k].n) = jaB h[i] h[k] from by simp only [jaB, hc2, hc4]; simp), H.below⟩
end Go.Proofs.YtgcokllbophkkaaGreat.Flo
namespace Go.Proofs.YtgcokllbophkkaaGreat.Flo
open Go Go.W Go.RowKit
theorem jcg : ∀ (vs a b : List Value) (k : Nat), k + vs.length ≤ a.length → jam (a ++ b) k vs = jam a k vs ++ b
 | [], _, _, _, _ => rfl
 | v :: vs, a, b, k, h => by
  simp only [List.length_cons] at h
  simp only [jam]
  rw [List.set_append_left _ _ (by omega)]
  exact jcg vs (a.set k v) b (k + 1) (by simp; omega)
theorem jbj (h : List Ent) (sp : List Value) (k : Nat) (x : Ent) (hk : k < h.length) : jam (h.flatMap j5 ++ sp) (0 + k * 3) (j5 x) = (h.set k x).flatMap j5 ++ sp := by
 rw [Nat.zero_add, jcg _ _ _ _ (by rw [x8 j9, j9]; omega), jb0 j9 h k x hk]
def jaF (gq ga : Nat) (h : List Ent) (cap : Nat) (p : Int) (sp : List Value) : List Blk := [⟨gq, 223, q8 (some ⟨ga, 0, none⟩) h.length cap p⟩, ⟨ga, 225, h.flatMap j5 ++ sp⟩]
theorem qSwap (gq ga cap i k : Nat) (p : Int) (h : List Ent) (sp : List Value) (w0 : World) (hi : i < h.length) (hk : k < h.length) (H0 : SH w0 [gq, ga] w0 (jaF gq ga h cap p sp)) :
  Calls Tryz.prog 150 #[.pointer (some ⟨gq, 0, none⟩), I i, I k] w0 fun e w' => e = .returned (.tuple #[]) ∧ SH w0 [gq, ga] w' (jaF gq ga (ja5 h i k) cap p sp) := by
 have Hf := H0
 unfold jaF q8 at Hf
 have H := Hf.reidx (L' := [⟨gq, 223, q8 (some ⟨ga, 0, none⟩) h.length cap p⟩]) [0] (by decide) rfl
 unfold q8 at H
 refine Calls.ofWP Tryz.func150 rfl Tryz.results150 Tryz.ntmps150 rfl ?_
 refine WP.rheldC [6, 7, 8, 9, 10, 11, 12, 13, 14, 15, 16, 17, 18, 19, 20, 21, 22, 23, 24, 25, 26, 27, 28, 29, 30, 31] (fun _ w' => SH w0 [gq, ga] w' (jaF gq ga (ja5 h i k) cap p sp)) mixed H ?_ ?_
 ·clear H; intro w hbw0 H
  refine Y.t 0 H rfl rfl (fun w H => Ev.mvP rfl)<|Y.t 1 H rfl rfl (fun w H => Ev.nilCheckP rfl)<|Y.tf 2 H rfl<|Y.tl 3 H 0 rfl<|Y.t 4 H rfl rfl (fun w H => Y.m rfl)<|Y.t 5 H rfl rfl (fun w H => Ev.mvP rfl)<|Y.t 6 H rfl rfl (fun w H => Ev.nilCheckP rfl)<|Y.tf 7 H rfl<|Y.tl 8 H 0 rfl<|Y.t 9 H rfl rfl (fun w H => Y.m rfl)<|Y.t 10 H rfl rfl (fun w H => Ev.mvP rfl)<|Y.t 11 H rfl rfl (fun w H => Ev.nilCheckP rfl)<|Y.tf 12 H rfl<|Y.tl 13 H 0 rfl<|Y.t 14 H rfl rfl (fun w H => Y.m rfl)<|Y.t 15 H rfl rfl (fun w H => Y.X rfl rfl rfl rfl rfl)<|Y.t 17 H rfl rfl (fun w H => Ev.mvP rfl)<|Y.t 18 H rfl rfl (fun w H => Ev.nilCheckP rfl)<|Y.tf 19 H rfl<|Y.tl 20 H 0 rfl<|Y.t 21 H rfl rfl (fun w H => Y.m rfl)<|Y.t 22 H rfl rfl (fun w H => Y.X rfl rfl rfl rfl rfl) ?_
  refine Y.A2 16 23 rfl rfl rfl ?_ ?_
  ·try replace Hf := Hf.toBelow hbw0
   have hx := jbL j9 Hf 1 rfl k hk
   obtain ⟨_, _, e1, hx⟩ := hx
   cases e1
   refine OPS.val rfl rfl rfl (by refine Ev.loadN (b := ga) (o := 0 + k * 3) (j5 h[k]) ?_ ?_ ?_ hx; exact j6 rfl; exact j4 rfl; rfl) ?_
   refine Y.z <| ⟨(H), ?_⟩
   refine Y.A1 23 rfl rfl ?_
   try replace Hf := Hf.toBelow hbw0
   have hx := jbL j9 Hf 1 rfl i hi
   obtain ⟨_, _, e1, hx⟩ := hx
   cases e1
   refine OPS.val rfl rfl rfl (by refine Ev.loadN (b := ga) (o := 0 + i * 3) (j5 h[i]) ?_ ?_ ?_ hx; exact j6 rfl; exact j4 rfl; rfl) ?_
   refine Y.z <| ⟨(H), ?_⟩
   refine Y.t 24 H rfl rfl (fun w H => Y.X rfl rfl rfl rfl rfl)<|Y.A1 25 rfl rfl<|OPS.store 1 _ rfl rfl rfl (j4 rfl) rfl (cA rfl) rfl rfl Hf rfl (by rw [List.length_append, x8 j9]; omega) ?_
   clear H Hf; intro w Hf
   replace Hf : SH w0 [gq, ga] w [⟨gq, 223, q8 (some ⟨ga, 0, none⟩) h.length cap p⟩, ⟨ga, 225, jam (h.flatMap j5 ++ sp) (0 + i * 3) (j5 h[k])⟩] := Hf
   rw [jbj h sp i _ hi] at Hf
   have H := Hf.reidx (L' := [⟨gq, 223, q8 (some ⟨ga, 0, none⟩) h.length cap p⟩]) [0] (by decide) rfl
   unfold q8 at H
   refine Y.z <| ⟨(H), ?_⟩
   refine Y.t 26 H rfl rfl (fun w H => Y.X rfl rfl rfl rfl rfl)<|Y.A1 27 rfl rfl<|OPS.store 1 _ rfl rfl rfl (j4 rfl) rfl (cA rfl) rfl rfl Hf rfl (by rw [List.length_append, x8 j9, List.length_set]; omega) ?_
   clear H Hf; intro w Hf
   replace Hf : SH w0 [gq, ga] w [⟨gq, 223, q8 (some ⟨ga, 0, none⟩) h.length cap p⟩, ⟨ga, 225, jam ((h.set i h[k]).flatMap j5 ++ sp) (0 + k * 3) (j5 h[i])⟩] := Hf
   rw [jbj _ sp k _ (by rw [List.length_set]; exact hk)] at Hf
   have H := Hf.reidx (L' := [⟨gq, 223, q8 (some ⟨ga, 0, none⟩) h.length cap p⟩]) [0] (by decide) rfl
   unfold q8 at H
   have hsw : ja5 h i k = (h.set i h[k]).set k h[i] := by simp [ja5, hi, hk]
   refine Y.z <| ⟨(H), ?_⟩
   refine Y.dn ?_
   exact ⟨Y.ag, by rw [jaF, y6, hsw]; exact Hf⟩
  ·try replace Hf := Hf.toBelow hbw0
   have hx := jbL j9 Hf 1 rfl i hi
   obtain ⟨_, _, e1, hx⟩ := hx
   cases e1
   refine OPS.val rfl rfl rfl (by refine Ev.loadN (b := ga) (o := 0 + i * 3) (j5 h[i]) ?_ ?_ ?_ hx; exact j6 rfl; exact j4 rfl; rfl) ?_
   refine Y.z <| ⟨(H), ?_⟩
   refine Y.A1 16 rfl rfl ?_
   try replace Hf := Hf.toBelow hbw0
   have hx := jbL j9 Hf 1 rfl k hk
   obtain ⟨_, _, e1, hx⟩ := hx
   cases e1
   refine OPS.val rfl rfl rfl (by refine Ev.loadN (b := ga) (o := 0 + k * 3) (j5 h[k]) ?_ ?_ ?_ hx; exact j6 rfl; exact j4 rfl; rfl) ?_
   refine Y.z <| ⟨(H), ?_⟩
   refine Y.t 24 H rfl rfl (fun w H => Y.X rfl rfl rfl rfl rfl)<|Y.A1 25 rfl rfl<|OPS.store 1 _ rfl rfl rfl (j4 rfl) rfl (cA rfl) rfl rfl Hf rfl (by rw [List.length_append, x8 j9]; omega) ?_
   clear H Hf; intro w Hf
   replace Hf : SH w0 [gq, ga] w [⟨gq, 223, q8 (some ⟨ga, 0, none⟩) h.length cap p⟩, ⟨ga, 225, jam (h.flatMap j5 ++ sp) (0 + i * 3) (j5 h[k])⟩] := Hf
   rw [jbj h sp i _ hi] at Hf
   have H := Hf.reidx (L' := [⟨gq, 223, q8 (some ⟨ga, 0, none⟩) h.length cap p⟩]) [0] (by decide) rfl
   unfold q8 at H
   refine Y.z <| ⟨(H), ?_⟩
   refine Y.t 26 H rfl rfl (fun w H => Y.X rfl rfl rfl rfl rfl)<|Y.A1 27 rfl rfl<|OPS.store 1 _ rfl rfl rfl (j4 rfl) rfl (cA rfl) rfl rfl Hf rfl (by rw [List.length_append, x8 j9, List.length_set]; omega) ?_
   clear H Hf; intro w Hf
   replace Hf : SH w0 [gq, ga] w [⟨gq, 223, q8 (some ⟨ga, 0, none⟩) h.length cap p⟩, ⟨ga, 225, jam ((h.set i h[k]).flatMap j5 ++ sp) (0 + k * 3) (j5 h[i])⟩] := Hf
   rw [jbj _ sp k _ (by rw [List.length_set]; exact hk)] at Hf
   have H := Hf.reidx (L' := [⟨gq, 223, q8 (some ⟨ga, 0, none⟩) h.length cap p⟩]) [0] (by decide) rfl
   unfold q8 at H
   have hsw : ja5 h i k = (h.set i h[k]).set k h[i] := by simp [ja5, hi, hk]
   refine Y.z <| ⟨(H), ?_⟩
   refine Y.dn ?_
   exact ⟨Y.ag, by rw [jaF, y6, hsw]; exact Hf⟩
 clear H
 rintro u w H
 refine ⟨_, rfl, ?_⟩
 exact ⟨rfl, H⟩
end Go.Proofs.YtgcokllbophkkaaGreat.Flo
namespace Go.Proofs.YtgcokllbophkkaaGreat.Flo
open Go Go.W Go.RowKit
def labV (x : Ent) : Value := .agg (ja9 x).toArray
def peekV (h : List Ent) : Value := .tuple #[labV (h.headD ⟨0, 0, 0⟩), .bool (!h.isEmpty)]
theorem qPeek (gq cap : Nat) (A : Option Addr) (p : Int) (h : List Ent) (w0 : World) (hq : jak w0 gq 0 (q8 A h.length cap p)) (hr : k8 3 j5 w0 A h) :
  Calls Tryz.prog 151 #[.pointer (some ⟨gq, 0, none⟩)] w0 fun e w' => e = .returned (peekV h) ∧ Below w0.heap.size w0 w' := by
 have H := SH.refl w0
 have hq' := hq
 obtain ⟨q0, q1, q2, _⟩ := hq
 refine Calls.ofWPc Tryz.func151 rfl Tryz.results151 Tryz.ntmps151 rfl<|Y.qr<|Y.al H rfl rfl ?_
 clear H; intro g2 w H
 refine Y.aB rfl<|Y.z<|Y.qq<|Y.D rfl<|Y.cl 6 rfl (qLen gq h.length cap A p _ (k7 H hq')) H ?_
 clear H; intro w H
 refine Y.v (Ev.eql rfl rfl)<|Y.z ?_
 refine WP.cond rfl (fun hc1 => ?_) (fun hc1 => ?_)
 ·have h0 : h = [] := List.length_eq_zero_iff.1 (by simp at hc1; simp [hc1])
  subst h0
  refine Y.qr<|Y.al H rfl rfl ?_
  clear H; intro g4 w H
  refine Y.z<|Y.qr<|Y.O H 0 rfl<|Y.ss 1 H rfl (cA rfl) rfl ?_
  clear H; intro w H
  refine Y.aB rfl<|Y.z ?_
  refine WP.ret ⟨[_, _], ⟨(by exact x6 1 H rfl (j6 rfl) (j4 rfl) (by rfl) rfl), rfl, trivial⟩, ?_⟩
  exact ⟨rfl, H.below⟩
 have hpos : 0 < h.length := by simp at hc1; exact List.length_pos_iff.2 hc1
 obtain ⟨b, o, rfl, hx⟩ := hr 0 hpos
 obtain ⟨x, l, rfl⟩ : ∃ x l, h = x :: l := by
  cases h with
  | nil => exact absurd hpos (by simp)
  | cons x l => exact ⟨x, l, rfl⟩
 obtain ⟨x0, x1, x2, _⟩ := k7 H hx
 refine Y.k<|Y.qr<|Y.D rfl<|Y.C rfl<|Y.F rfl<|Y.v (Y.c (H.ld0 (by assumption)) rfl) ?_
 refine Y.v (Ev.indexAddr (j := 0) (x7 rfl) (j4 rfl) rfl rfl rfl hpos)<|Y.F rfl ?_
 refine OPS.val rfl rfl rfl (by refine Ev.loadN (b := b) (o := o + 0 * 3 + 0) (ja9 x) ?_ ?_ ?_ ⟨x0, x1, trivial⟩; exact j6 rfl; exact j4 rfl; rfl) ?_
 refine Y.ss 0 H rfl (cA rfl) rfl ?_
 clear H; intro w H
 refine Y.aB rfl<|Y.z ?_
 refine WP.ret ⟨[_, _], ⟨(by exact x6 0 H rfl (j6 rfl) (j4 rfl) (by rfl) rfl), rfl, trivial⟩, ?_⟩
 exact ⟨rfl, H.below⟩
theorem qNew (w0 : World) :
  Calls Tryz.prog 132 #[.func (.func 133) #[] #[]] w0 fun e w' => ∃ g, e = .returned (.pointer (some ⟨g, 0, none⟩)) ∧ SH w0 [] w' [⟨g, 223, q8 none 0 0 0⟩] := by
 have H := SH.refl w0
 refine Calls.ofWP Tryz.func132 rfl Tryz.results132 Tryz.ntmps132 rfl<|Y.qr<|Y.v (Ev.asP rfl)<|Y.z<|Y.qq<|Y.v (Ev.mvF rfl)<|Y.v (Ev.eqlFn Tryz.runUnderlying202 rfl rfl)<|Y.z<|WP.cond_f rfl ?_
 refine Y.k<|Y.qr<|Y.v (Ev.mvF rfl)<|Y.v (Ev.build (jjz rfl))<|Y.bx (cA rfl) H ?_
 clear H; intro g7 w H
 refine Y.v (Ev.asP rfl)<|Y.z ?_
 refine WP.ret ⟨_, rfl, ?_⟩
 exact ⟨_, rfl, H⟩
end Go.Proofs.YtgcokllbophkkaaGreat.Flo
namespace Go.Proofs.YtgcokllbophkkaaGreat.Flo
open Go Go.W Go.RowKit
theorem jcG : jmO jaB := ⟨fun x y h => by unfold jaB at *; simp at *; omega, fun x y z h1 h2 => by unfold jaB at *; simp at *; omega⟩
theorem jd4 (gq ga cap i k : Nat) (x y p : Int) (h : List Ent) (sp : List Value) (w0 w : World) (S : List Nat) (L : List Blk) (hx : x = i) (hy : y = k) (H : SH w0 S w L) (h0 : L[0]? = some ⟨gq, 223, q8 (some ⟨ga, 0, none⟩) h.length cap p⟩) (h1 : L[1]? = some ⟨ga, 225, h.flatMap j5 ++ sp⟩) (hi : i < h.length) (hk : k < h.length) :
  Calls Tryz.prog 149 #[.pointer (some ⟨gq, 0, none⟩), I x, I y] w fun e w' => e = .returned (.bool (jaB (h.getD i default) (h.getD k default))) ∧ Below w.heap.size w w' := by
 subst hx hy
 have e1 : h.getD i default = h[i] := by simp [hi]
 have e2 : h.getD k default = h[k] := by simp [hk]
 rw [e1, e2]
 exact jhr gq cap i k (some ⟨ga, 0, none⟩) p h w (jas H 0 h0 _ 0 fun j hj => by rw [Nat.zero_add]; exact List.getElem?_eq_getElem hj) (jbL j9 H 1 h1) hi hk
theorem jfd (gq ga cap i k : Nat) (x y p : Int) (h : List Ent) (sp : List Value) (w0 w : World) (S : List Nat) (hx : x = i) (hy : y = k) (H : SH w0 S w (jaF gq ga h cap p sp)) (hi : i < h.length) (hk : k < h.length) :
  Calls Tryz.prog 150 #[.pointer (some ⟨gq, 0, none⟩), I x, I y] w fun e w' => e = .returned (.tuple #[]) ∧ SH w0 S w' (jaF gq ga (ja5 h i k) cap p sp) := by
 subst hx hy
 refine (qSwap gq ga cap i k p h sp w hi hk (H.restart (List.Sublist.refl _))).mono fun e w' ⟨he, Hc⟩ => ⟨he, ?_⟩
 exact SH.call (L1 := []) (Lv := jaF gq ga h cap p sp) H Hc
theorem qSink (gq ga cap : Nat) (p : Int) (h : List Ent) (sp : List Value) (w0 : World) (S : List Nat) (hd : jcx jaB h 0) (hl : h.length ≤ 1000000000) (H0 : SH w0 S w0 (jaF gq ga h cap p sp)) :
  Calls Tryz.prog 152 #[.pointer (some ⟨gq, 0, none⟩)] w0 fun e w' => e = .returned (.tuple #[]) ∧ ∃ h' : List Ent, h'.Perm h ∧ jaM jaB h' ∧ SH w0 S w' (jaF gq ga h' cap p sp) := by
 have H := H0
 refine Calls.ofWP Tryz.func152 rfl Tryz.results152 Tryz.ntmps152 rfl<|Y.qr<|Y.bz rfl<|WP.block<|WP.loop [2, 3, 4, 5, 6, 7, 8, 9, 10, 11, 12, 13, 14, 15, 16, 17, 18, 19, 20, 21, 22, 23, 24, 25, 26, 27, 28, 29, 30, 31, 32, 33, 34, 35, 36, 37] (fun g e w' => ∃ (i : Nat) (h1 : List Ent), e 2 = I i ∧ SH w0 S w' (jaF gq ga h1 cap p sp) ∧ h1.Perm h ∧ jcx jaB h1 i ∧ (i < h.length ∨ h = []) ∧ i + g = h.length) (h.length) (⟨0, h, rfl, H, List.Perm.refl _, hd, by cases h with | nil => exact .inr rfl | cons x t => exact .inl (by simp), by omega⟩) ?_
 clear H
 rintro g u w ⟨i, h1, h2, H, hp, hd1, hi, hg⟩
 refine WP.know (t := 2) h2 ?_
 have hlen := hp.length_eq
 unfold jaF q8 at H
 refine WP.block<|Y.qr<|Y.a rfl<|Y.bz rfl<|Y.qq<|Y.a rfl<|Y.v (Ev.mul rfl rfl (by unfold fits; omega))<|Y.P rfl<|Y.bz rfl<|WP.block<|WP.loop [3, 4, 9, 10, 11, 12, 13, 14, 15, 16, 17, 18, 19, 20, 21, 22, 23, 24, 25, 26, 27, 28, 29] (fun g2 e w' => ∃ k f : Nat, e 4 = I k ∧ e 3 = I f ∧ SH w0 S w' (jaF gq ga h1 cap p sp) ∧ jbD jaB h1 i k f ∧ 2 * i + 1 ≤ k ∧ k + g2 = 2 * i + 3) (2) (⟨2 * i + 1, i, rfl, rfl, H, jbD.start jcG h1 i, by omega, by omega⟩) ?_
 clear H
 rintro g2 u2 w ⟨k, f, h4, h3, H, hF, hk1, hk2⟩
 refine WP.know (t := 4) h4 (WP.know (t := 3) h3 ?_)
 unfold jaF q8 at H
 refine Y.qq<|Y.a rfl<|Y.a rfl<|Y.v (Ev.mul rfl rfl (by unfold fits; omega))<|Y.P rfl<|Y.v (Ev.leq rfl rfl)<|Y.B rfl<|Y.gm rfl<|Y.g rfl rfl (fun hg => Ev.mvP rfl)<|Y.g rfl rfl (fun hg => Ev.nilCheckP (gvE hg rfl))<|Y.g rfl rfl (fun hg => Ev.fieldAddr (jaf rfl) (gvE hg rfl))<|Y.yy H 0 rfl<|Y.g rfl rfl (fun hg => Ev.len (x7 rfl) (gvE hg rfl))<|Y.g rfl rfl (fun hg => Ev.lss (gvE hg rfl) (gvE hg rfl))<|Y.pa rfl<|Y.z ?_
 refine WP.cond rfl (fun hc3 => ?_) (fun hc3 => ?_)
 ·have hkl : k ≤ 2 * i + 2 ∧ k < h1.length := by simp at hc3; omega
  have hfl : f < h1.length := by rcases hF.place with q | q <;> omega
  refine Y.k<|Y.q<|WP.block<|Y.qr<|Y.D rfl<|Y.a rfl<|Y.a rfl<|Y.cl 28 rfl (jd4 gq ga cap k f _ _ p h1 sp w0 w S _ rfl rfl H rfl rfl hkl.2 hfl) H ?_
  clear H; intro w H
  refine Y.z ?_
  refine WP.cond rfl (fun hc5 => ?_) (fun hc5 => ?_)
  ·have hF2 := hF.take jcG (by omega) hkl.2 (by omega) hc5
   refine Y.r<|Y.a rfl<|Y.bz rfl<|Y.r<|Y.a rfl<|Y.P rfl<|Y.bz rfl ?_
   exact ⟨Y.ag, g2 - 1, by omega, k + 1, _, rfl, rfl, H, hF2, by omega, by omega⟩
  have hF2 := hF.keep hc5
  refine Y.k<|Y.r<|Y.a rfl<|Y.P rfl<|Y.bz rfl ?_
  exact ⟨Y.ag, g2 - 1, by omega, k + 1, _, rfl, rfl, H, hF2, by omega, by omega⟩
 have hdn : 2 * i + 2 < k ∨ h1.length ≤ k := by simp at hc3; omega
 have hall := hF.done hdn
 refine WP.exit<|XB.hit<|Y.qq<|Y.a rfl<|Y.a rfl<|Y.v (Ev.eql rfl rfl)<|Y.z ?_
 refine WP.cond rfl (fun hc7 => ?_) (fun hc7 => ?_)
 ·refine WP.ret ⟨_, rfl, ?_⟩
  have hfi : f = i := by simp at hc7; omega
  subst hfi
  exact ⟨rfl, h1, hp, hd1.done hall, H⟩
 have hfi : f ≠ i := by simp at hc7; omega
 obtain ⟨q1, q2, q3⟩ : 0 < f ∧ (f - 1) / 2 = i ∧ f < h1.length := by rcases hF.place with q | q; exact absurd q hfi; exact q
 have hil : i < h1.length := by omega
 refine Y.k<|Y.qr<|Y.D rfl<|Y.a rfl<|Y.a rfl<|Y.c2 36 rfl (jfd gq ga cap i f _ _ p h1 sp w0 w S rfl rfl H hil q3) ?_
 rintro _ w ⟨rfl, H2⟩
 refine ⟨_, rfl, ?_⟩
 replace H := H2; clear H2
 refine Y.z<|Y.r<|Y.a rfl<|Y.bz rfl ?_
 exact ⟨Y.ag, h.length - f, by omega, f, ja5 h1 i f, rfl, H, (jcD hil q3).trans hp, hd1.step hil q3 q1 q2 hF.le hall, .inl (by omega), by omega⟩
end Go.Proofs.YtgcokllbophkkaaGreat.Flo
namespace Go.Proofs.YtgcokllbophkkaaGreat.Flo
open Go Go.W Go.RowKit
abbrev jfr (A : Option Addr) (cap : Nat) (h : List Ent) (Lo : List Blk) : Prop := OwnS A cap h.length (h.flatMap j5) 225 3 Lo
def qLv (gq : Nat) (A : Option Addr) (cap : Nat) (h : List Ent) (p : Int) (Lo : List Blk) : List Blk := ⟨gq, 223, q8 A h.length cap p⟩ :: Lo
theorem jgN (h : List Ent) : ((h.flatMap j5).all (·.oneCell')) = true := by
 rw [List.all_eq_true]; intro v hv
 obtain ⟨x, _, hx⟩ := List.mem_flatMap.1 hv
 simp only [j5, List.mem_cons, List.not_mem_nil, or_false] at hx
 rcases hx with rfl | rfl | rfl <;> rfl
theorem jkW (gq cap : Nat) (A : Option Addr) (p nd ds : Int) (h : List Ent) (Lo : List Blk) (w0 : World) (S : List Nat) (hO : jfr A cap h Lo) (hh : jaM jaB h) (hl : h.length ≤ 1000000) (hp : 0 ≤ p ∧ p ≤ 1000000000) (H0 : SH w0 S w0 (qLv gq A cap h p Lo)) :
  Calls Tryz.prog 134 #[.pointer (some ⟨gq, 0, none⟩), .agg #[I nd, I ds]] w0 fun e w' => e = .returned (.tuple #[]) ∧ ∃ (A' : Option Addr) (cap' : Nat) (h' : List Ent) (Lo' : List Blk),
   h'.Perm (h ++ [⟨nd, ds, p⟩]) ∧ jaM jaB h' ∧ jfr A' cap' h' Lo' ∧ SH w0 S w' (qLv gq A' cap' h' (p + 1) Lo') := by
 have H := H0
 unfold qLv q8 at H
 refine Calls.ofWP Tryz.func134 rfl Tryz.results134 Tryz.ntmps134 rfl<|Y.qr<|Y.bx (cA rfl) H ?_
 clear H; intro g3 w H
 refine Y.z<|Y.qq<|Y.D rfl<|Y.v (Ev.eqlPn Tryz.runUnderlying198 rfl rfl)<|Y.z<|WP.cond_f rfl ?_
 refine Y.k<|Y.q ?_
 have Hf := H
 replace H := H.reidx (L' := [⟨g3, 201, [I nd, I ds]⟩]) [0] (by decide) rfl
 refine WP.rheldC [7, 8, 9, 10, 11, 12, 13, 14, 15, 16, 17, 18, 19, 20, 21] (fun _ w' => ∃ (ga : Nat) (sp : List Value) (cap' : Nat), OwnS (some ⟨ga, 0, none⟩) cap' (h.length + 1) (h.flatMap j5 ++ j5 ⟨nd, ds, p⟩) 225 3 [⟨ga, 225, (h.flatMap j5 ++ j5 ⟨nd, ds, p⟩) ++ sp⟩] ∧ SH w0 S w' [⟨gq, 223, q8 (some ⟨ga, 0, none⟩) (h.length + 1) cap' p⟩, ⟨ga, 225, (h.flatMap j5 ++ j5 ⟨nd, ds, p⟩) ++ sp⟩]) mixed H ?_ ?_
 ·clear H; intro w hbw2 H
  refine Y.t 0 H rfl rfl (fun w H => Ev.mvP rfl)<|Y.t 1 H rfl rfl (fun w H => Ev.mvP rfl)<|Y.t 2 H rfl rfl (fun w H => Ev.nilCheckP rfl)<|Y.tf 3 H rfl<|Y.t 5 H rfl rfl (fun w H => Y.o H 0 rfl rfl)<|Y.t 6 H rfl rfl (fun w H => Ev.mvP rfl)<|Y.t 7 H rfl rfl (fun w H => Ev.nilCheckP rfl)<|Y.tf 8 H rfl ?_
  refine Y.A2 4 9 rfl rfl rfl ?_ ?_
  ·try replace Hf := Hf.toBelow hbw2
   refine Y.v (Y.l Hf 1 rfl rfl rfl)<|Y.z <| ⟨(H), ?_⟩
   refine Y.A1 9 rfl rfl ?_
   try replace Hf := Hf.toBelow hbw2
   refine Y.v (Y.l Hf 1 rfl rfl rfl)<|Y.z <| ⟨(H), ?_⟩
   refine Y.t 10 H rfl rfl (fun w H => Ev.build (jeW rfl rfl))<|Y.A1 11 rfl rfl<|OPS.buildSlice rfl rfl rfl rfl (jdB rfl) Hf ?_
   clear H Hf; intro g18 w Hf
   have H := Hf.reidx (L' := [⟨g3, 201, [I nd, I ds]⟩]) [1] (by decide) rfl
   refine Y.z <| ⟨(H), ?_⟩
   refine Y.A1 12 rfl rfl<|OPS.append (m := 1) (news := j5 ⟨nd, ds, p⟩) (R := [⟨g18, 225, j5 ⟨nd, ds, p⟩⟩, ⟨g3, 201, [I nd, I ds]⟩, ⟨gq, 223, q8 A h.length cap p⟩]) rfl rfl rfl rfl rfl (z8 rfl) rfl rfl hO rfl (y0 Hf 0 rfl) rfl (by omega) (by unfold maxLen; omega) Hf (List.Perm.refl _) ?_
   clear H Hf hO; intro A' cap' Lo w hO Hf
   obtain ⟨ga, sp, rfl, rfl, _, _, hsl⟩ : ∃ g sp, A' = some ⟨g, 0, none⟩ ∧ Lo = [⟨g, 225, (h.flatMap j5 ++ j5 ⟨nd, ds, p⟩) ++ sp⟩] ∧ h.length + 1 ≤ cap' ∧ cap' ≤ maxLen ∧ ((h.flatMap j5 ++ j5 ⟨nd, ds, p⟩) ++ sp).length = cap' * 3 := by
    rcases hO.form with ⟨_, h, _⟩ | h
    ·omega
    ·exact h
   unfold q8 at Hf
   have H := Hf.reidx (L' := [⟨g3, 201, [I nd, I ds]⟩]) [1] (by decide) rfl
   refine Y.z <| ⟨(H), ?_⟩
   refine Y.t 13 H rfl rfl (fun w H => Ev.nilCheckP rfl)<|Y.tf 14 H rfl<|Y.A1 15 rfl rfl<|Y.st 2 Hf rfl (cS rfl) rfl ?_
   clear H Hf; intro w Hf
   have H := Hf.reidx (L' := [⟨g3, 201, [I nd, I ds]⟩]) [1] (by decide) rfl
   replace Hf := Hf.reidx (L' := [⟨gq, 223, q8 (some ⟨ga, 0, none⟩) (h.length + 1) cap' p⟩, ⟨ga, 225, (h.flatMap j5 ++ j5 ⟨nd, ds, p⟩) ++ sp⟩]) [2, 3] (by decide) rfl
   refine Y.z <| ⟨(H), ?_⟩
   refine Y.dn ?_
   exact ⟨Y.ag, ga, sp, cap', hO, Hf⟩
  ·try replace Hf := Hf.toBelow hbw2
   refine Y.v (Y.l Hf 1 rfl rfl rfl)<|Y.z <| ⟨(H), ?_⟩
   refine Y.t 10 H rfl rfl (fun w H => Ev.build (jeW rfl rfl)) ?_
   refine Y.A2 4 11 rfl rfl rfl ?_ ?_
   ·try replace Hf := Hf.toBelow hbw2
    refine Y.v (Y.l Hf 1 rfl rfl rfl)<|Y.z <| ⟨(H), ?_⟩
    refine Y.A1 11 rfl rfl<|OPS.buildSlice rfl rfl rfl rfl (jdB rfl) Hf ?_
    clear H Hf; intro g18 w Hf
    have H := Hf.reidx (L' := [⟨g3, 201, [I nd, I ds]⟩]) [1] (by decide) rfl
    refine Y.z <| ⟨(H), ?_⟩
    refine Y.A1 12 rfl rfl<|OPS.append (m := 1) (news := j5 ⟨nd, ds, p⟩) (R := [⟨g18, 225, j5 ⟨nd, ds, p⟩⟩, ⟨g3, 201, [I nd, I ds]⟩, ⟨gq, 223, q8 A h.length cap p⟩]) rfl rfl rfl rfl rfl (z8 rfl) rfl rfl hO rfl (y0 Hf 0 rfl) rfl (by omega) (by unfold maxLen; omega) Hf (List.Perm.refl _) ?_
    clear H Hf hO; intro A' cap' Lo w hO Hf
    obtain ⟨ga, sp, rfl, rfl, _, _, hsl⟩ : ∃ g sp, A' = some ⟨g, 0, none⟩ ∧ Lo = [⟨g, 225, (h.flatMap j5 ++ j5 ⟨nd, ds, p⟩) ++ sp⟩] ∧ h.length + 1 ≤ cap' ∧ cap' ≤ maxLen ∧ ((h.flatMap j5 ++ j5 ⟨nd, ds, p⟩) ++ sp).length = cap' * 3 := by
     rcases hO.form with ⟨_, h, _⟩ | h
     ·omega
     ·exact h
    unfold q8 at Hf
    have H := Hf.reidx (L' := [⟨g3, 201, [I nd, I ds]⟩]) [1] (by decide) rfl
    refine Y.z <| ⟨(H), ?_⟩
    refine Y.t 13 H rfl rfl (fun w H => Ev.nilCheckP rfl)<|Y.tf 14 H rfl<|Y.A1 15 rfl rfl<|Y.st 2 Hf rfl (cS rfl) rfl ?_
    clear H Hf; intro w Hf
    have H := Hf.reidx (L' := [⟨g3, 201, [I nd, I ds]⟩]) [1] (by decide) rfl
    replace Hf := Hf.reidx (L' := [⟨gq, 223, q8 (some ⟨ga, 0, none⟩) (h.length + 1) cap' p⟩, ⟨ga, 225, (h.flatMap j5 ++ j5 ⟨nd, ds, p⟩) ++ sp⟩]) [2, 3] (by decide) rfl
    refine Y.z <| ⟨(H), ?_⟩
    refine Y.dn ?_
    exact ⟨Y.ag, ga, sp, cap', hO, Hf⟩
   ·refine OPS.buildSlice rfl rfl rfl rfl (jdB rfl) Hf ?_
    clear H Hf; intro g18 w Hf
    have H := Hf.reidx (L' := [⟨g3, 201, [I nd, I ds]⟩]) [1] (by decide) rfl
    refine Y.z <| ⟨(H), ?_⟩
    refine Y.A1 4 rfl rfl ?_
    try replace Hf := Hf.toBelow hbw2
    refine Y.v (Y.l Hf 2 rfl rfl rfl)<|Y.z <| ⟨(H), ?_⟩
    refine Y.A1 12 rfl rfl<|OPS.append (m := 1) (news := j5 ⟨nd, ds, p⟩) (R := [⟨g18, 225, j5 ⟨nd, ds, p⟩⟩, ⟨g3, 201, [I nd, I ds]⟩, ⟨gq, 223, q8 A h.length cap p⟩]) rfl rfl rfl rfl rfl (z8 rfl) rfl rfl hO rfl (y0 Hf 0 rfl) rfl (by omega) (by unfold maxLen; omega) Hf (List.Perm.refl _) ?_
    clear H Hf hO; intro A' cap' Lo w hO Hf
    obtain ⟨ga, sp, rfl, rfl, _, _, hsl⟩ : ∃ g sp, A' = some ⟨g, 0, none⟩ ∧ Lo = [⟨g, 225, (h.flatMap j5 ++ j5 ⟨nd, ds, p⟩) ++ sp⟩] ∧ h.length + 1 ≤ cap' ∧ cap' ≤ maxLen ∧ ((h.flatMap j5 ++ j5 ⟨nd, ds, p⟩) ++ sp).length = cap' * 3 := by
     rcases hO.form with ⟨_, h, _⟩ | h
     ·omega
     ·exact h
    unfold q8 at Hf
    have H := Hf.reidx (L' := [⟨g3, 201, [I nd, I ds]⟩]) [1] (by decide) rfl
    refine Y.z <| ⟨(H), ?_⟩
    refine Y.t 13 H rfl rfl (fun w H => Ev.nilCheckP rfl)<|Y.tf 14 H rfl<|Y.A1 15 rfl rfl<|Y.st 2 Hf rfl (cS rfl) rfl ?_
    clear H Hf; intro w Hf
    have H := Hf.reidx (L' := [⟨g3, 201, [I nd, I ds]⟩]) [1] (by decide) rfl
    replace Hf := Hf.reidx (L' := [⟨gq, 223, q8 (some ⟨ga, 0, none⟩) (h.length + 1) cap' p⟩, ⟨ga, 225, (h.flatMap j5 ++ j5 ⟨nd, ds, p⟩) ++ sp⟩]) [2, 3] (by decide) rfl
    refine Y.z <| ⟨(H), ?_⟩
    refine Y.dn ?_
    exact ⟨Y.ag, ga, sp, cap', hO, Hf⟩
 clear H
 rintro u w ⟨ga, sp, cap', hO, H⟩
 have e1 : (h ++ [(⟨nd, ds, p⟩ : Ent)]).flatMap j5 = h.flatMap j5 ++ j5 ⟨nd, ds, p⟩ := by simp
 have e2 : (h ++ [(⟨nd, ds, p⟩ : Ent)]).length = h.length + 1 := by simp
 rw [← e1, ← e2] at H hO
 have hup := jjA.start hh (⟨nd, ds, p⟩ : Ent)
 unfold q8 at H
 refine Y.qr<|Y.D rfl<|Y.C rfl<|Y.W H 0 rfl<|Y.P rfl<|Y.C rfl<|Y.F rfl<|Y.ss 0 H rfl (cI rfl) rfl ?_
 clear H; intro w H
 refine Y.z<|Y.qr<|Y.D rfl<|Y.C rfl<|Y.W H 0 rfl<|Y.E rfl<|Y.Q rfl<|Y.bz rfl<|WP.block<|WP.loop [4, 35, 36, 37, 38, 39, 40, 41, 42, 43, 44, 45, 46, 47, 48, 49, 50, 51, 52, 53] (fun g e w' => ∃ (i : Nat) (h1 : List Ent), i = g ∧ e 4 = I i ∧ SH w0 S w' (jaF gq ga h1 cap' (p + 1) sp) ∧ h1.Perm (h ++ [⟨nd, ds, p⟩]) ∧ jjA jaB h1 i) (h.length) (⟨h.length, h ++ [(⟨nd, ds, p⟩ : Ent)], rfl, by rw [show (((h ++ [(⟨nd, ds, p⟩ : Ent)]).length : Nat) : Int) - 1 = (h.length : Nat) from by rw [e2]; omega]; rfl, H, List.Perm.refl _, hup⟩) ?_
 clear H
 rintro g u w ⟨i, h1, rfl, h4, H, hpm, hu⟩
 refine WP.know (t := 4) h4 ?_
 have hlen := hpm.length_eq
 have hil := hu.lt'
 unfold jaF q8 at H
 refine Y.q<|Y.q ?_
 skip
 refine Y.r<|Y.a rfl<|Y.v (Ev.gtr rfl rfl)<|Y.B rfl<|Y.g rfl rfl (fun hg => Ev.mvP rfl)<|Y.gm rfl<|Y.gm rfl<|Y.g rfl rfl (fun hg => Ev.sub (gvE hg rfl) rfl (by unfold fits; omega))<|Y.g rfl rfl (fun hg => Ev.quo (gvE hg rfl) rfl (by simp at hg; omega) (by omega) (by omega))<|OPS.gcall (f := 149) (args := [.pointer (some ⟨gq, 0, none⟩), I i, I (((i : Int) - 1) / 2)]) (v := .bool (jaB (h1.getD i default) (h1.getD ((i - 1) / 2) default))) rfl rfl rfl rfl rfl (fun hg => EvC.conv (EvC.func (z7 rfl)) (l3 (gvE hg rfl) (gvE hg rfl) (gvE hg rfl))) (fun hg => jd4 gq ga cap' i ((i - 1) / 2) _ _ (p + 1) h1 sp w0 w S _ rfl (by simp at hg; omega) H rfl rfl hil (by omega)) ?_
 intro w hbc; replace H := H.toBelow hbc; clear hbc
 refine Y.pa rfl<|Y.z ?_
 refine Y.i rfl (fun hc5 => ?_) fun hc5 => ?_
 ·rw [Bool.and_eq_true, decide_eq_true_eq] at hc5
  have hi0 : 0 < i := by omega
  refine Y.k<|Y.q<|WP.block<|Y.r<|Y.D rfl<|Y.a rfl<|Y.a rfl<|Y.Q rfl<|Y.v (Ev.quo rfl rfl (by omega) (by omega) (by omega))<|Y.c2 53 rfl (jfd gq ga cap' i ((i - 1) / 2) _ _ (p + 1) h1 sp w0 w S rfl (by omega) H hil (by omega)) ?_
  rintro _ w ⟨rfl, H2⟩
  refine ⟨_, rfl, ?_⟩
  replace H := H2; clear H2
  refine Y.z<|Y.r<|Y.a rfl<|Y.Q rfl<|Y.v (Ev.quo rfl rfl (by omega) (by omega) (by omega))<|Y.bz rfl ?_
  exact ⟨Y.ag, (i - 1) / 2, by omega, (i - 1) / 2, ja5 h1 i ((i - 1) / 2), rfl, by rw [show (((i - 1) / 2 : Nat) : Int) = ((i : Int) - 1) / 2 from by omega]; rfl, H, (jcD hil (by omega)).trans hpm, hu.step jcG hi0 hc5.2⟩
 refine WP.exit<|XB.hit <| ⟨_, rfl, ?_⟩
 have hfin : jaM jaB h1 := hu.done (by
  rcases Nat.eq_zero_or_pos i with h0 | h0
  ·exact .inl h0
  ·refine .inr ?_
   have q : decide ((0 : Int) < i) = true := by simp; omega
   rw [q, Bool.true_and] at hc5
   exact hc5)
 have e3 : (h1.flatMap j5).length = ((h ++ [(⟨nd, ds, p⟩ : Ent)]).flatMap j5).length := by rw [x8 j9, x8 j9, hlen]
 have hO2 : jfr (some ⟨ga, 0, none⟩) cap' h1 [⟨ga, 225, h1.flatMap j5 ++ sp⟩] := by
  refine ⟨x8 j9 h1, .inr ⟨ga, sp, rfl, rfl, ?_⟩⟩
  rcases hO.form with ⟨_, q, _⟩ | ⟨g', sp', q1, q2, q3, q4, q5⟩
  ·rw [e2] at q; omega
  ·have q6 : sp' = sp := by
    simp only [List.cons.injEq, Blk.mk.injEq, and_true, true_and] at q2
    exact (List.append_cancel_left q2.2).symm
   subst q6
   refine ⟨by rw [hlen]; exact q3, q4, ?_⟩
   rw [List.length_append] at q5 ⊢
   rw [e3]; exact q5
 exact ⟨rfl, _, cap', h1, _, hpm, hfin, hO2, H⟩
end Go.Proofs.YtgcokllbophkkaaGreat.Flo
namespace Go.Proofs.YtgcokllbophkkaaGreat.Flo
open Go Go.W Go.RowKit
theorem qRows {A : Option Addr} {cap gq : Nat} {p : Int} {h : List Ent} {Lo : List Blk} {w0 w : World} {S : List Nat} (hO : jfr A cap h Lo) (H : SH w0 S w (qLv gq A cap h p Lo)) : k8 3 j5 w A h := by
 rcases hO.form with ⟨_, q, _, _⟩ | ⟨g, sp, rfl, rfl, _⟩
 ·rw [List.length_eq_zero_iff.1 q]; exact k8.nil
 ·exact jbL j9 H 1 rfl
theorem jgi (h : List Ent) (z : Ent) (hl : 0 < h.length) : (ja5 h 0 (h.length - 1)).set (h.length - 1) z = jfH h ++ [z] := by
 have e : (ja5 h 0 (h.length - 1)).length = h.length := y6 ..
 rw [List.set_eq_take_append_cons_drop, if_pos (by omega), List.drop_eq_nil_of_le (by omega)]; rfl
def popV (x : Ent) (b : Bool) : Value := .tuple #[labV x, .bool b]
theorem qPop (gq cap : Nat) (A : Option Addr) (p : Int) (h : List Ent) (Lo : List Blk) (w0 : World) (S : List Nat) (hO : jfr A cap h Lo) (hh : jaM jaB h) (hl : h.length ≤ 1000000) (H0 : SH w0 S w0 (qLv gq A cap h p Lo)) :
  Calls Tryz.prog 135 #[.pointer (some ⟨gq, 0, none⟩)] w0 fun e w' =>
   (h = [] ∧ e = .returned (popV ⟨0, 0, 0⟩ false) ∧ SH w0 S w' (qLv gq A cap h p Lo)) ∨
   ∃ (x : Ent) (t h' : List Ent) (Lo' : List Blk), h = x :: t ∧ e = .returned (popV x true) ∧ (x :: h').Perm h ∧ jaM jaB h' ∧ jfr A cap h' Lo' ∧ SH w0 S w' (qLv gq A cap h' p Lo') := by
 have H := H0
 have hrow : ∀ w, SH w0 S w (qLv gq A cap h p Lo) → k8 3 j5 w A h := fun w H => qRows hO H
 refine Calls.ofWPc Tryz.func135 rfl Tryz.results135 Tryz.ntmps135 rfl<|Y.qr<|Y.al H rfl rfl ?_
 clear H; intro g2 w H
 refine Y.aB rfl<|Y.z<|Y.q ?_
 have Hq := H.reidx (L' := [⟨gq, 223, q8 A h.length cap p⟩]) [1] (by decide) rfl
 have hr1 := hrow w (Y.d1 H)
 have hq1 : jak w gq 0 (q8 A h.length cap p) := jas H 1 rfl _ 0 fun j hj => by rw [Nat.zero_add]; exact List.getElem?_eq_getElem hj
 clear Hq
 refine Y.r<|Y.D rfl<|Y.cl 9 rfl (qPeek gq cap A p h _ hq1 hr1) H ?_
 clear H; intro w H
 refine Y.T rfl<|Y.G rfl<|Y.G rfl<|Y.al H rfl rfl ?_
 clear H; intro g4 w H
 refine Y.ss 0 H rfl (cA rfl) rfl ?_
 clear H; intro w H
 refine Y.aB rfl<|Y.z<|Y.qq<|Y.B rfl<|Y.v (Ev.not rfl)<|Y.z ?_
 refine Y.i rfl (fun hc2 => ?_) fun hc2 => ?_
 ·have h0 : h = [] := by cases h with | nil => rfl | cons x t => simp at hc2
  subst h0
  refine Y.qr<|Y.O H 0 rfl<|Y.ss 1 H rfl (cA rfl) rfl ?_
  clear H; intro w H
  refine Y.aB rfl<|Y.z ?_
  refine WP.ret ⟨[_, _], ⟨(by exact x6 1 H rfl (j6 rfl) (j4 rfl) (by rfl) rfl), rfl, trivial⟩, ?_⟩
  exact .inl ⟨rfl, rfl, H.drop (Y.sc.trans Y.sc)⟩
 obtain ⟨x, t, rfl⟩ : ∃ x t, h = x :: t := by cases h with | nil => simp at hc2 | cons x t => exact ⟨x, t, rfl⟩
 obtain ⟨ga, sp, rfl, rfl, hcap, hmx, hsl⟩ : ∃ g sp, A = some ⟨g, 0, none⟩ ∧ Lo = [⟨g, 225, (x :: t).flatMap j5 ++ sp⟩] ∧ (x :: t).length ≤ cap ∧ cap ≤ maxLen ∧ ((x :: t).flatMap j5 ++ sp).length = cap * 3 := by
  rcases hO.form with ⟨_, h, _⟩ | h
  ·simp at h
  ·exact h
 simp only [List.length_cons] at hcap hl
 have hlc : (x :: t).length = t.length + 1 := rfl
 unfold qLv q8 at H
 refine Y.k<|Y.qr<|Y.D rfl<|Y.C rfl<|Y.W H 2 rfl<|Y.E rfl<|Y.Q rfl<|Y.bz rfl<|Y.qr<|Y.D rfl<|Y.a rfl<|Y.c2 23 rfl (jfd gq ga cap 0 t.length _ _ p (x :: t) sp w w (jaF gq ga (x :: t) cap p sp |>.map (·.g)) rfl (by simp only [List.length_cons]; omega) (SH.restart H (Lv := jaF gq ga (x :: t) cap p sp) (Y.sc.trans Y.sc)) (by simp) (by simp)) ?_
 rintro _ w ⟨rfl, H2⟩
 refine ⟨_, rfl, ?_⟩
 replace H := SH.call (Lv := jaF gq ga (x :: t) cap p sp) (L1 := [_, _]) H H2
 clear H2
 unfold jaF q8 at H
 rw [y6] at H
 refine Y.z<|Y.qr<|Y.D rfl<|Y.C rfl<|Y.W H 2 rfl<|Y.a rfl<|Y.v (Ev.sliceFrom2 (j := t.length) (x7 rfl) (j4 rfl) rfl rfl (by simp only [List.length_cons]; omega) (by simp) (by omega))<|OPS.clear 3 _ rfl rfl rfl (zs := j5 ⟨0, 0, 0⟩) (x7 rfl) (jd7 rfl) rfl (by decide) rfl rfl (by simp) H rfl (by simp only [List.length_append, x8 j9, y6, hlc, j9]; omega) ?_
 clear H; intro w H
 rw [show (x :: t).length - t.length = 1 from by rw [hlc]; omega, show mkL 1 (j5 ⟨0, 0, 0⟩) = j5 ⟨0, 0, 0⟩ from rfl, jbj _ _ _ _ (by rw [y6, hlc]; omega),
  show (ja5 (x :: t) 0 t.length).set t.length ⟨0, 0, 0⟩ = jfH (x :: t) ++ [⟨0, 0, 0⟩] from jgi (x :: t) _ (by simp), List.flatMap_append, List.append_assoc] at H
 refine Y.z<|Y.qr<|Y.D rfl<|Y.D rfl<|Y.C rfl<|Y.W H 2 rfl<|Y.a rfl<|Y.v (Ev.sliceTo (j := t.length) (x7 rfl) ⟨3, j4 rfl⟩ rfl rfl (by simp only [List.length_cons]; omega) (by omega))<|Y.C rfl<|Y.F rfl<|Y.ss 2 H rfl (cS rfl) rfl ?_
 clear H; intro w H
 refine Y.z<|Y.qr<|Y.D rfl<|Y.c2 40 rfl (qSink gq ga cap p (jfH (x :: t)) ([⟨0, 0, 0⟩].flatMap j5 ++ sp) w (jaF gq ga (jfH (x :: t)) cap p ([⟨0, 0, 0⟩].flatMap j5 ++ sp) |>.map (·.g)) (jcx.start hh) (by rw [jba, hlc]; omega) (SH.restart H (Lv := jaF gq ga (jfH (x :: t)) cap p ([⟨0, 0, 0⟩].flatMap j5 ++ sp)) (by unfold jaF q8; rw [jba]; exact (Y.sc.trans Y.sc)))) ?_
 rintro _ w ⟨rfl, h', hp', hh', H2⟩
 refine ⟨_, rfl, ?_⟩
 replace H := SH.call (Lv := jaF gq ga (jfH (x :: t)) cap p ([⟨0, 0, 0⟩].flatMap j5 ++ sp)) (L1 := [⟨g4, 201, ja9 x⟩, ⟨g2, 201, [I 0, I 0]⟩]) (by unfold jaF q8; rw [jba]; exact H) H2
 clear H2
 have hlen' : h'.length = t.length := by rw [hp'.length_eq, jba]; rfl
 unfold jaF ja9 at H
 refine Y.z<|Y.qr<|Y.O H 0 rfl<|Y.ss 1 H rfl (cA rfl) rfl ?_
 clear H; intro w H
 refine Y.aB rfl<|Y.z ?_
 refine WP.ret ⟨[_, _], ⟨(by exact x6 1 H rfl (j6 rfl) (j4 rfl) (by rfl) rfl), rfl, trivial⟩, ?_⟩
 refine .inr ⟨x, t, h', [⟨ga, 225, h'.flatMap j5 ++ ([⟨0, 0, 0⟩].flatMap j5 ++ sp)⟩], rfl, rfl, (List.Perm.cons x hp').trans jgY, hh', ⟨x8 j9 h', .inr ⟨ga, _, rfl, rfl, by omega, hmx, ?_⟩⟩, H.drop (Y.sc.trans Y.sc)⟩
 rw [← hsl]
 simp only [List.length_append, x8 j9, hlen', hlc, List.length_cons, List.length_nil]
 omega
theorem qPop2 (gq cap : Nat) (A : Option Addr) (p : Int) (h : List Ent) (Lo : List Blk) (w0 : World) (S : List Nat) (hO : jfr A cap h Lo) (hh : jaM jaB h) (hl : h.length ≤ 1000000) (H0 : SH w0 S w0 (qLv gq A cap h p Lo)) :
  Calls Tryz.prog 135 #[.pointer (some ⟨gq, 0, none⟩)] w0 fun e w' =>
   ∃ (x : Ent) (b : Bool) (h' : List Ent) (Lo' : List Blk), e = .returned (popV x b) ∧ (b = false → h = [] ∧ h' = []) ∧ (b = true → (x :: h').Perm h ∧ ∀ z ∈ h, x.dist ≤ z.dist) ∧ jaM jaB h' ∧ jfr A cap h' Lo' ∧ SH w0 S w' (qLv gq A cap h' p Lo') := by
 refine (qPop gq cap A p h Lo w0 S hO hh hl H0).mono fun e w' hr => ?_
 rcases hr with ⟨rfl, he, H⟩ | ⟨x, t, h', Lo', rfl, he, hp, hh', hO', H⟩
 ·exact ⟨⟨0, 0, 0⟩, false, [], Lo, he, fun _ => ⟨rfl, rfl⟩, (fun h => by cases h), hh, hO, H⟩
 ·refine ⟨x, true, h', Lo', he, (fun h => by cases h), fun _ => ⟨hp, fun z hz => ?_⟩, hh', hO', H⟩
  have := hh.root_le jcG z hz
  unfold jaB at this
  simp only [Bool.or_eq_false_iff, decide_eq_false_iff_not] at this
  omega
end Go.Proofs.YtgcokllbophkkaaGreat.Flo
namespace Go.Proofs.YtgcokllbophkkaaGreat.Flo
open Go Go.W Go.RowKit
structure NAdr where
 gx : Nat
 gdo : Nat
 gpo : Nat
 gst : Nat
 gdi : Nat
 gwa : Nat
 gS : Nat
 gI : Nat
 gD : Nat
 gq : Nat
structure NSt where
 sts : List Step
 dist : List Int
 h : List Ent
 p : Int
 A : Option Addr
 cap : Nat
 Lo : List Blk
def jgc (g : NAdr) (n x : Nat) (xd : Int) (Ap : Option Addr) (np capp : Nat) : List Blk :=
 [⟨g.gx, 201, [I x, I xd]⟩, ⟨g.gdo, 154, [.slice (some ⟨g.gD, 0, none⟩) n n]⟩, ⟨g.gpo, 32, [.slice Ap np capp]⟩, ⟨g.gst, 175, [.slice (some ⟨g.gS, 0, none⟩) n n]⟩, ⟨g.gdi, 32, [.slice (some ⟨g.gI, 0, none⟩) n n]⟩, ⟨g.gwa, 198, [.pointer (some ⟨g.gq, 0, none⟩)]⟩]
def nLv (g : NAdr) (n x : Nat) (xd : Int) (Ap : Option Addr) (np capp : Nat) (done : List Bool) (s : NSt) : List Blk :=
 jgc g n x xd Ap np capp ++ ([⟨g.gD, 4, done.map Bo⟩, ⟨g.gS, 179, s.sts.flatMap y2⟩, ⟨g.gI, 3, s.dist.map I⟩] ++ qLv g.gq s.A s.cap s.h s.p s.Lo)
def jec (x : Nat) (xd : Int) (pots : List Int) (done : List Bool) (s : NSt) (a b : Nat) (cost : Int) : Bool :=
 (decide (a = x) && !done.getD b false) && ((!(s.sts.getD b default).known) || decide (xd + cost + pots.getD a 0 - pots.getD b 0 < s.dist.getD b 0))
def jfI (x : Nat) (xd : Int) (pots : List Int) (done : List Bool) (a b arc : Nat) (room cost : Int) (fwd : Bool) (s s' : NSt) : Prop :=
 if jec x xd pots done s a b cost = true then
  s'.sts = s.sts.set b ⟨a, arc, room, fwd, true, 0⟩ ∧ s'.dist = s.dist.set b (xd + cost + pots.getD a 0 - pots.getD b 0) ∧ s'.h.Perm (s.h ++ [⟨b, xd + cost + pots.getD a 0 - pots.getD b 0, s.p⟩]) ∧ s'.p = s.p + 1
 else s'.sts = s.sts ∧ s'.dist = s.dist ∧ s'.h = s.h ∧ s'.p = s.p
structure jg3 (n : Nat) (s : NSt) : Prop where
 slen : s.sts.length = n
 dlen : s.dist.length = n
 own : jfr s.A s.cap s.h s.Lo
 heap : jaM jaB s.h
theorem jkt (g : NAdr) (n x a b arc : Nat) (xd room cost : Int) (fwd : Bool) (Ap : Option Addr) (capp : Nat) (pots : List Int) (done : List Bool) (s : NSt) (w0 : World) (S : List Nat) (hok : jg3 n s) (hpl : pots.length = n) (hdl : done.length = n)
  (ha : a < n) (hb : b < n) (hp : k9 w0 Ap pots) (hpo : ∀ i (h : i < pots.length), -1000000000000 ≤ pots[i] ∧ pots[i] ≤ 1000000000000) (hxd : -1000000000000 ≤ xd ∧ xd ≤ 1000000000000) (hco : -1000000000000 ≤ cost ∧ cost ≤ 1000000000000)
  (hl : s.h.length ≤ 1000000) (hpp : 0 ≤ s.p ∧ s.p ≤ 1000000000) (hoff : pots ≠ [] → Off Ap S) (H0 : SH w0 S w0 (nLv g n x xd Ap n capp done s)) :
  Calls Tryz.prog 137 #[I a, I b, I arc, I room, I cost, .bool fwd, .pointer (some ⟨g.gx, 0, none⟩), .pointer (some ⟨g.gdo, 0, none⟩), .pointer (some ⟨g.gpo, 0, none⟩), .pointer (some ⟨g.gst, 0, none⟩), .pointer (some ⟨g.gdi, 0, none⟩), .pointer (some ⟨g.gwa, 0, none⟩)] w0
   fun e w' => e = .returned (.tuple #[]) ∧ ∃ s', jfI x xd pots done a b arc room cost fwd s s' ∧ jg3 n s' ∧ SH w0 S w' (nLv g n x xd Ap n capp done s') := by
 have H := H0
 simp only [nLv, jgc, qLv, q8, List.cons_append, List.nil_append] at H
 have hs1 : s.sts.getD b default = s.sts[b]'(by rw [hok.slen]; exact hb) := by simp [hok.slen, hb]
 have hd1 : s.dist.getD b 0 = s.dist[b]'(by rw [hok.dlen]; exact hb) := by simp [hok.dlen, hb]
 have hpa : pots.getD a 0 = pots[a]'(by omega) := by simp [hpl, ha]
 have hpb : pots.getD b 0 = pots[b]'(by omega) := by simp [hpl, hb]
 have hdb : done.getD b false = done[b]'(by omega) := by simp [hdl, hb]
 have ho1 := hpo a (by omega)
 have ho2 := hpo b (by omega)
 refine Calls.ofWP Tryz.func137 rfl Tryz.results137 Tryz.ntmps137 rfl<|Y.qq ?_
 obtain ⟨_, _, e1, hxd1⟩ := y9 H 6 rfl b (by omega)
 cases e1
 refine Y.a rfl<|Y.W H 0 rfl<|Y.V rfl<|Y.B rfl<|Y.g rfl rfl (fun hg => Y.l H 1 rfl rfl rfl)<|Y.gm rfl<|Y.g rfl rfl (fun hg => Ev.indexAddr1 (x7 rfl) (j4 rfl) (gvE hg rfl) (gvE hg rfl) rfl (by omega))<|Y.g rfl rfl (fun hg => Ev.load1 (j6 rfl) (gvE hg rfl) (by assumption)) ?_
 refine Y.po rfl<|Y.z ?_
 refine WP.cond rfl (fun hc0 => ?_) (fun hc0 => ?_)
 ·refine WP.ret ⟨_, rfl, ?_⟩
  have hcc : jec x xd pots done s a b cost = false := by
   unfold jec
   rw [hdb]
   have h2 : (decide (a = x) && !done[b]) = false := by
    by_cases q : a = x
    ·subst q; simpa using hc0
    ·simp [q]
   rw [h2]; rfl
  exact ⟨rfl, s, by unfold jfI; rw [if_neg (by rw [hcc]; simp)]; exact ⟨rfl, rfl, rfl, rfl⟩, hok, H⟩
 have hax : a = x := by
  by_cases q : a = x
  ·exact q
  ·exfalso; have q2 : ¬ ((a : Int) = x) := by omega
   simp [q2] at hc0
 subst hax
 have hdf : done[b] = false := by simpa using hc0
 obtain ⟨bp, op, rfl, hpa1⟩ := hp a (by omega)
 obtain ⟨_, _, e1, hpb1⟩ := hp b (by omega)
 cases e1
 have hbS : bp ∉ S := hoff (List.ne_nil_of_length_pos (by omega)) bp op rfl
 refine Y.k<|Y.q<|WP.rstill mixed (by kernel_rfl) H ?_
 clear H; intro w hbw1 H
 refine Y.W H 0 rfl<|Y.a rfl<|Y.P rfl<|Y.J H 2 rfl<|Y.a rfl<|Y.I rfl<|Y.v (Y.c (H.ldS (by assumption) (by assumption)) rfl) ?_
 refine Y.P rfl<|Y.J H 2 rfl<|Y.a rfl<|Y.I rfl<|Y.v (Y.c (H.ldS (by assumption) (by assumption)) rfl) ?_
 refine Y.Q rfl<|Y.b rfl<|OPS.nil_s<|Y.qr ?_
 obtain ⟨_, _, e1, a0, a1, a2, a3, a4, a5, _⟩ := jbF jaj H 7 rfl b (by rw [hok.slen]; exact hb)
 cases e1
 obtain ⟨_, _, e1, hdd⟩ := y9 H 8 rfl b (by rw [hok.dlen]; exact hb)
 cases e1
 refine Y.J H 3 rfl<|Y.a rfl<|Y.U rfl<|Y.F rfl<|Y.v (Y.c (by assumption) rfl) ?_
 refine Y.v (Ev.not rfl)<|Y.B rfl<|Y.gm rfl<|Y.g rfl rfl (fun hg => Y.l H 4 rfl rfl rfl)<|Y.gm rfl<|Y.g rfl rfl (fun hg => Ev.indexAddr1 (x7 rfl) (j4 rfl) (gvE hg rfl) (gvE hg rfl) rfl (by omega))<|Y.g rfl rfl (fun hg => Ev.load1 (j6 rfl) (gvE hg rfl) (by assumption)) ?_
 refine Y.g rfl rfl (fun hg => Ev.lss (gvE hg rfl) (gvE hg rfl))<|Y.po rfl<|Y.z ?_
 refine WP.cond rfl (fun hc2 => ?_) (fun hc2 => ?_)
 ·have hcc : jec a xd pots done s a b cost = true := by
   unfold jec
   rw [hdb, hs1, hd1, hdf, hpa, hpb]
   simpa using hc2
  refine Y.q ?_
  have Hf := H
  replace H := H.reidx (L' := jgc g n a xd (some ⟨bp, op, none⟩) n capp) [0, 1, 2, 3, 4, 5] (by decide) rfl
  unfold jgc at H
  have hpu1 : jam (s.sts.flatMap y2) (0 + b * 6) (y2 ⟨a, arc, room, fwd, true, 0⟩) = (s.sts.set b ⟨a, arc, room, fwd, true, 0⟩).flatMap y2 := by rw [Nat.zero_add]; exact jb0 jaj s.sts b _ (by rw [hok.slen]; exact hb)
  have hpu2 : jam (s.dist.map I) (0 + b) [I (xd + cost + pots[a] - pots[b])] = (s.dist.set b (xd + cost + pots[a] - pots[b])).map I := by rw [Nat.zero_add]; exact jae s.dist b _
  refine WP.rheldC [57, 58, 59, 60, 61, 62, 63, 64, 65, 66, 67, 68] (fun _ w' => SH w0 S w' (nLv g n a xd (some ⟨bp, op, none⟩) n capp done ⟨s.sts.set b ⟨a, arc, room, fwd, true, 0⟩, s.dist.set b (xd + cost + pots[a] - pots[b]), s.h, s.p, s.A, s.cap, s.Lo⟩)) mixed H ?_ ?_
  ·clear H; intro w hbw3 H
   refine Y.tl 0 H 3 rfl<|Y.t 1 H rfl rfl (fun w H => Y.m rfl)<|Y.tl 2 H 4 rfl<|Y.t 3 H rfl rfl (fun w H => Y.m rfl)<|Y.t 4 H rfl rfl (fun w H => Y.m rfl)<|Y.t 5 H rfl rfl (fun w H => Y.m rfl)<|Y.t 6 H rfl rfl (fun w H => Y.m rfl)<|Y.t 7 H rfl rfl (fun w H => Ev.mvB rfl)<|Y.t 8 H rfl rfl (fun w H => Ev.build (jeu rfl rfl rfl rfl rfl))<|Y.t 9 H rfl rfl (fun w H => Y.m rfl)<|Y.t 10 H rfl rfl (fun w H => Y.X rfl rfl rfl rfl rfl)<|Y.A1 11 rfl rfl ?_
   try replace Hf := Hf.toBelow hbw3
   refine OPS.store (vs := y2 ⟨a, arc, room, fwd, true, 0⟩) 7 _ rfl rfl rfl (j4 rfl) rfl (cA rfl) rfl rfl Hf rfl (by simp only [x8 jaj, hok.slen]; omega) ?_
   clear H Hf; intro w Hf
   simp only [List.set_cons_zero, List.set_cons_succ] at Hf
   rw [hpu1] at Hf
   have H := Hf.reidx (L' := jgc g n a xd (some ⟨bp, op, none⟩) n capp) [0, 1, 2, 3, 4, 5] (by decide) rfl
   unfold jgc at H
   refine Y.z <| ⟨(H), ?_⟩
   refine Y.t 12 H rfl rfl (fun w H => Y.x rfl rfl rfl rfl)<|Y.A1 13 rfl rfl ?_
   try replace Hf := Hf.toBelow hbw3
   refine OPS.store (vs := [I (xd + cost + pots[a] - pots[b])]) 8 _ rfl rfl rfl (j4 rfl) rfl (cI rfl) rfl rfl Hf rfl (by simp only [List.length_map, hok.dlen]; omega) ?_
   clear H Hf; intro w Hf
   simp only [List.set_cons_zero, List.set_cons_succ] at Hf
   rw [hpu2] at Hf
   have H := Hf.reidx (L' := jgc g n a xd (some ⟨bp, op, none⟩) n capp) [0, 1, 2, 3, 4, 5] (by decide) rfl
   unfold jgc at H
   refine Y.z <| ⟨(H), ?_⟩
   refine Y.dn ?_
   exact ⟨Y.ag, Hf⟩
  clear H
  rintro u w H
  refine Y.r<|Y.J H 5 rfl<|Y.a rfl<|Y.a rfl<|Y.v (Ev.build (jhE rfl rfl))<|Y.c2 73 rfl (jkW g.gq s.cap s.A s.p _ _ s.h s.Lo w (qLv g.gq s.A s.cap s.h s.p s.Lo |>.map (·.g)) hok.own hok.heap hl hpp (H.restart (Y.sr.trans Y.sr))) ?_
  rintro _ w ⟨rfl, A', cap', h', Lo', hpm, hh', hO', H2⟩
  refine ⟨_, rfl, ?_⟩
  replace H := SH.call (Lv := qLv g.gq s.A s.cap s.h s.p s.Lo) (L1 := jgc g n a xd (some ⟨bp, op, none⟩) n capp ++ [⟨g.gD, 4, done.map Bo⟩, ⟨g.gS, 179, (s.sts.set b ⟨a, arc, room, fwd, true, 0⟩).flatMap y2⟩, ⟨g.gI, 3, (s.dist.set b (xd + cost + pots[a] - pots[b])).map I⟩]) (by rw [List.append_assoc]; exact H) H2
  rw [List.append_assoc] at H
  have hres : ∃ s', jfI a xd pots done a b arc room cost fwd s s' ∧ jg3 n s' ∧ SH w0 S w (nLv g n a xd (some ⟨bp, op, none⟩) n capp done s') := by
   refine ⟨⟨s.sts.set b ⟨a, arc, room, fwd, true, 0⟩, s.dist.set b (xd + cost + pots[a] - pots[b]), h', s.p + 1, A', cap', Lo'⟩, ?_, ⟨by simp [hok.slen], by simp [hok.dlen], hO', hh'⟩, H⟩
   unfold jfI
   rw [if_pos hcc, hpa, hpb]
   exact ⟨rfl, rfl, hpm, rfl⟩
  refine Y.z <| ⟨_, rfl, ?_⟩
  exact ⟨rfl, hres⟩
 have hcc : jec a xd pots done s a b cost = false := by
  unfold jec
  rw [hdb, hs1, hd1, hdf, hpa, hpb]
  simpa using hc2
 have hres : ∃ s', jfI a xd pots done a b arc room cost fwd s s' ∧ jg3 n s' ∧ SH w0 S w (nLv g n a xd (some ⟨bp, op, none⟩) n capp done s') := ⟨s, by unfold jfI; rw [if_neg (by rw [hcc]; simp)]; exact ⟨rfl, rfl, rfl, rfl⟩, hok, H⟩
 refine Y.k <| ⟨_, rfl, ?_⟩
 exact ⟨rfl, hres⟩
end Go.Proofs.YtgcokllbophkkaaGreat.Flo
namespace Go.Proofs.YtgcokllbophkkaaGreat.Flo
open Go Go.W
def costOf : List Arc → List Int → Int
 | a :: l, x :: on => x * a.cost + costOf l on
 | _, _ => 0
def rc (p : Int → Int) (a : Arc) : Int := a.cost + p a.f - p a.t
def OptPot (p : Int → Int) (l : List Arc) (on : List Int) : Prop := ∀ i (h : i < l.length) (h2 : i < on.length), (on[i] < l[i].cap → 0 ≤ rc p l[i]) ∧ (0 < on[i] → rc p l[i] ≤ 0)
def lin (c : Arc → Int) : List Arc → List Int → Int
 | a :: l, x :: on => x * c a + lin c l on
 | _, _ => 0
theorem jev : ∀ (l : List Arc) (on : List Int), costOf l on = lin (·.cost) l on
 | [], _ => by simp [costOf, lin]
 | _ :: _, [] => by simp [costOf, lin]
 | a :: l, x :: on => by simp only [costOf, lin]; rw [jev l on]
theorem jgI (p : Int → Int) : ∀ (l : List Arc) (on : List Int), lin (rc p) l on = costOf l on + y8 p l on
 | [], _ => by simp [costOf, lin, y8]
 | _ :: _, [] => by simp [costOf, lin, y8]
 | a :: l, x :: on => by
  simp only [costOf, lin, y8]
  rw [jgI p l on]
  have : x * rc p a = x * a.cost + x * (p a.f - p a.t) := by rw [← Int.mul_add]; congr 1; unfold rc; omega
  omega
theorem jgR (c : Arc → Int) : ∀ (l : List Arc) (on on' : List Int), on.length = l.length → on'.length = l.length → (∀ i (h : i < l.length) (h2 : i < on.length) (h3 : i < on'.length), on'[i] = on[i] ∨ c l[i] = 0) → lin c l on' = lin c l on
 | [], _, _, _, _, _ => by simp [lin]
 | a :: l, [], _, h, _, _ => by simp at h
 | a :: l, _ :: _, [], _, h, _ => by simp at h
 | a :: l, x :: on, y :: on', h1, h2, h => by
  simp only [lin]
  rw [jgR c l on on' (by simpa using h1) (by simpa using h2) fun i q1 q2 q3 => h (i + 1) (Nat.succ_lt_succ q1) (Nat.succ_lt_succ q2) (Nat.succ_lt_succ q3)]
  have h0 := h 0 (by simp) (by simp) (by simp)
  simp only [List.getElem_cons_zero] at h0
  rcases h0 with h0 | h0 <;> rw [h0]
  simp
theorem jcH {n : Nat} {l : List Arc} {s t : Int} {on : List Int} {amt : Int} (hf : IsFlow n l s t on amt) (hn : jar n l) (hs : 0 ≤ s ∧ s < n) (ht : 0 ≤ t ∧ t < n) (hst : s ≠ t) (p : Int → Int) : y8 p l on = amt * (p s - p t) := by
 have key : ∀ p : Int → Int, p t = 0 → y8 p l on = amt * p s := by
  intro p hp
  rw [jer n p l on hn, jcW _ s n hs.1 hs.2 fun u h0 h1 h2 => ?_, hf.amt, Int.mul_comm]
  by_cases hu : u = t
  ·subst hu; rw [hp]; simp
  ·rw [hf.cons u h0 h1 h2 hu]; simp
 have hconst : ∀ (c : Int) (l : List Arc) (on : List Int), y8 (fun u => p u - c) l on = y8 p l on := by
  intro c l
  induction l with
  | nil => intro on; simp [y8]
  | cons a l ih =>
   intro on
   cases on with
   | nil => simp [y8]
   | cons x on => simp only [y8]; rw [ih, show p a.f - c - (p a.t - c) = p a.f - p a.t by omega]
 rw [← hconst (p t), key _ (by omega)]
theorem jh8 (p : Int → Int) : ∀ (l : List Arc) (x y : List Int), jaP l x → jaP l y → OptPot p l x → lin (rc p) l x ≤ lin (rc p) l y
 | [], _, _, _, _, _ => by simp [lin]
 | a :: l, [], _, h, _, _ => by have := h.len; simp at this
 | a :: l, _ :: _, [], _, h, _ => by have := h.len; simp at this
 | a :: l, x :: xs, y :: ys, hx, hy, ho => by
  simp only [lin]
  have ih := jh8 p l xs ys ⟨by simpa using hx.len, fun i h h2 => hx.bd (i + 1) (Nat.succ_lt_succ h) (Nat.succ_lt_succ h2)⟩ ⟨by simpa using hy.len, fun i h h2 => hy.bd (i + 1) (Nat.succ_lt_succ h) (Nat.succ_lt_succ h2)⟩ fun i h h2 => ho (i + 1) (Nat.succ_lt_succ h) (Nat.succ_lt_succ h2)
  have hx0 := hx.bd 0 (by simp) (by simp)
  have hy0 := hy.bd 0 (by simp) (by simp)
  have ho0 := ho 0 (by simp) (by simp)
  simp only [List.getElem_cons_zero] at hx0 hy0 ho0
  have : x * rc p a ≤ y * rc p a := by
   rcases Int.lt_trichotomy (rc p a) 0 with h | h | h
   ·have hxc : x = a.cap := by rcases Int.lt_or_eq_of_le hx0.2 with q | q; have := ho0.1 q; omega; exact q
    subst hxc
    exact Int.mul_le_mul_of_nonpos_right hy0.2 (by omega)
   ·rw [h]; simp
   ·have hxc : x = 0 := by rcases Int.lt_or_eq_of_le hx0.1 with q | q; have := ho0.2 q; omega; exact q.symm
    subst hxc
    rw [Int.zero_mul]
    exact Int.mul_nonneg hy0.1 (by omega)
  omega
theorem opt_le {n : Nat} {l : List Arc} {s t : Int} {x y : List Int} {a b : Int} {p : Int → Int} (hx : IsFlow n l s t x a) (hy : IsFlow n l s t y b) (ho : OptPot p l x) (hn : jar n l) (hs : 0 ≤ s ∧ s < n) (ht : 0 ≤ t ∧ t < n) (hst : s ≠ t) :
  costOf l x + (b - a) * (p t - p s) ≤ costOf l y := by
 have h := jh8 p l x y hx.v hy.v ho
 rw [jgI, jgI, jcH hx hn hs ht hst, jcH hy hn hs ht hst] at h
 have e : (b - a) * (p t - p s) = a * (p s - p t) - b * (p s - p t) := by rw [← Int.sub_mul, show p t - p s = -(p s - p t) by omega, Int.mul_neg, ← Int.neg_mul, Int.neg_sub]
 omega
def IsLeast (n : Nat) (l : List Arc) (s t amt c : Int) : Prop := (∃ on, IsFlow n l s t on amt ∧ costOf l on = c) ∧ ∀ on, IsFlow n l s t on amt → c ≤ costOf l on
theorem jmb {n : Nat} {l : List Arc} {s t : Int} {x : List Int} {a : Int} {p : Int → Int} (hx : IsFlow n l s t x a) (ho : OptPot p l x) (hn : jar n l) (hs : 0 ≤ s ∧ s < n) (ht : 0 ≤ t ∧ t < n) (hst : s ≠ t) : IsLeast n l s t a (costOf l x) :=
 ⟨⟨x, hx, rfl⟩, fun y hy => by have := opt_le hx hy ho hn hs ht hst; simpa using this⟩
end Go.Proofs.YtgcokllbophkkaaGreat.Flo
namespace Go.Proofs.YtgcokllbophkkaaGreat.Flo
open Go Go.W
def dAt (d : List Int) (v : Nat) : Int := d.getD v 0
def dnB (d : List Bool) (v : Nat) : Bool := d.getD v false
def jaZ (p : Int → Int) (l : List Arc) (on : List Int) (i : Nat) (fw : Bool) (u v : Nat) (r w : Int) : Prop := ∃ (h : i < l.length) (h2 : i < on.length),
 (fw = true → l[i].f = u ∧ l[i].t = v ∧ r = l[i].cap - on[i] ∧ on[i] < l[i].cap ∧ w = rc p l[i]) ∧ (fw = false → l[i].t = u ∧ l[i].f = v ∧ r = on[i] ∧ 0 < on[i] ∧ w = -rc p l[i])
theorem jaZ.same {p : Int → Int} {l : List Arc} {on : List Int} {i : Nat} {fw : Bool} {u v u' v' : Nat} {r w r' w' : Int} (h : jaZ p l on i fw u v r w) (h' : jaZ p l on i fw u' v' r' w') : u = u' ∧ v = v' ∧ w = w' := by
 obtain ⟨_, _, a, b⟩ := h
 obtain ⟨_, _, a', b'⟩ := h'
 cases fw with
 | true => have := a rfl; have := a' rfl; omega
 | false => have := b rfl; have := b' rfl; omega
theorem jaZ.nonneg {p : Int → Int} {l : List Arc} {on : List Int} (ho : OptPot p l on) {i : Nat} {fw : Bool} {u v : Nat} {r w : Int} (h : jaZ p l on i fw u v r w) : 0 ≤ w := by
 obtain ⟨h1, h2, a, b⟩ := h
 have := ho i h1 h2
 cases fw with
 | true => have q := a rfl; have := this.1 q.2.2.2.1; omega
 | false => have q := b rfl; have := this.2 q.2.2.2.1; omega
theorem jaZ.edge {p : Int → Int} {l : List Arc} {on : List Int} {i : Nat} {fw : Bool} {u v : Nat} {r w : Int} (h : jaZ p l on i fw u v r w) {d : Int} {k : Bool} : Edge l on ⟨u, i, r, fw, k, d⟩ u v := by
 obtain ⟨h1, h2, a, b⟩ := h
 exact ⟨rfl, i, rfl, h1, h2, fun hf => ⟨(a hf).1, (a hf).2.1, (a hf).2.2.1, (a hf).2.2.2.1⟩, fun hf => ⟨(b hf).1, (b hf).2.1, (b hf).2.2.1, (b hf).2.2.2.1⟩⟩
theorem jfW : ∀ l : List Bool, jaN l ≤ l.length := fun l => by unfold jaN; exact List.length_filter_le _ _
structure DI (p : Int → Int) (l : List Arc) (on : List Int) (n s x : Nat) (Pr : Nat → Bool → Prop) (st : NSt) (done : List Bool) (rk : Nat → Int) (D : Int) : Prop where
 slen : st.sts.length = n
 dlen : st.dist.length = n
 olen : done.length = n
 src : kn st.sts s = true ∧ dAt st.dist s = 0
 nn : ∀ v, v < n → kn st.sts v = true → 0 ≤ dAt st.dist v
 par : ∀ v, v < n → kn st.sts v = true → v ≠ s → ∃ u i fw r w, u < n ∧ dnB done u = true ∧ jaZ p l on i fw u v r w ∧ st.sts.getD v default = ⟨u, i, r, fw, true, 0⟩ ∧ dAt st.dist v = dAt st.dist u + w ∧ (dnB done v = true → rk u < rk v)
 dn : ∀ v, v < n → dnB done v = true → kn st.sts v = true ∧ 0 ≤ rk v ∧ rk v < (n : Int) - jaN done
 bd : ∀ v, v < n → dnB done v = true → dAt st.dist v + p v ≤ 65536 * rk v
 bd2 : ∀ v, v < n → kn st.sts v = true → dnB done v = false → dAt st.dist v + p v ≤ 65536 * ((n : Int) - jaN done)
 ent : ∀ y ∈ st.h, ∃ v : Nat, v < n ∧ y.node = v ∧ kn st.sts v = true ∧ dAt st.dist v ≤ y.dist
 live : ∀ v, v < n → kn st.sts v = true → dnB done v = false → ∃ y ∈ st.h, y.node = v ∧ y.dist = dAt st.dist v
 low : ∀ v, v < n → dnB done v = true → dAt st.dist v ≤ D
 low2 : ∀ y ∈ st.h, D ≤ y.dist
 clo : ∀ i fw u v r w, jaZ p l on i fw u v r w → v < n → dnB done u = true → (u ≠ x ∨ Pr i fw) → kn st.sts v = true ∧ dAt st.dist v ≤ dAt st.dist u + w
section
variable {p : Int → Int} {l : List Arc} {on : List Int} {n s x : Nat} {Pr : Nat → Bool → Prop} {st : NSt} {done : List Bool} {rk : Nat → Int} {D : Int}
theorem DI.pr (h : DI p l on n s x Pr st done rk D) {Pr' : Nat → Bool → Prop} (hp : ∀ i fw u v r w, jaZ p l on i fw u v r w → Pr' i fw → Pr i fw) : DI p l on n s x Pr' st done rk D :=
 { h with clo := fun i fw u v r w hE hv hd hx => h.clo i fw u v r w hE hv hd (hx.imp id (hp i fw u v r w hE)) }
theorem jbI {d : List Int} {b v : Nat} {y : Int} (hb : b < d.length) : dAt (d.set b y) v = if b = v then y else dAt d v := by
 unfold dAt
 by_cases h : b = v
 ·subst h; simp [hb]
 ·simp [h, List.getElem?_set]
theorem jc3 {d : List Bool} {b v : Nat} {y : Bool} (hb : b < d.length) : dnB (d.set b y) v = if b = v then y else dnB d v := by
 unfold dnB
 by_cases h : b = v
 ·subst h; simp [hb]
 ·simp [h, List.getElem?_set]
theorem jh6 {sts : List Step} {b v : Nat} {y : Step} (hb : b < sts.length) : kn (sts.set b y) v = if b = v then y.known else kn sts v := by
 unfold kn
 rw [jco hb]; split <;> rfl
theorem DI.init (hs : s < n) (hp : p s ≤ 0) {A : Option Addr} {cap : Nat} {Lo : List Blk} {q : Int} : DI p l on n s x Pr ⟨jad n s, List.replicate n 0, [⟨s, 0, 0⟩], q, A, cap, Lo⟩ (List.replicate n false) (fun _ => 0) 0 := by
 have hk : ∀ v, v < n → (kn (jad n s) v = true → v = s) := fun v hv hk => by
  unfold jad at hk
  rw [jh6 (by simpa using hs)] at hk
  by_cases h : s = v
  ·exact h.symm
  ·rw [if_neg h] at hk; simp [kn, hv] at hk
 have hks : kn (jad n s) s = true := by
  unfold jad
  rw [jh6 (by simpa using hs), if_pos rfl]
 have hd : ∀ v, v < n → dAt (List.replicate n 0) v = 0 := fun v hv => by simp [dAt, hv]
 have hn : ∀ v, v < n → dnB (List.replicate n false) v = false := fun v hv => by simp [dnB, hv]
 have ho : jaN (List.replicate n false) = n := by simp [jaN]
 refine ⟨by simp [jad], by simp, by simp, ⟨hks, hd s hs⟩, fun v hv _ => by rw [hd v hv]; omega, fun v hv h1 h2 => absurd (hk v hv h1) h2, fun v hv h1 => (by rw [hn v hv] at h1; cases h1), fun v hv h1 => (by rw [hn v hv] at h1; cases h1),
  fun v hv h1 _ => ?_, fun y hy => ?_, fun v hv h1 _ => ?_, fun v hv h1 => (by rw [hn v hv] at h1; cases h1), fun y hy => ?_, fun i fw u v r w hE hv h1 _ => ?_⟩
 ·have := hk v hv h1; subst this
  rw [ho]
  have := hd v hv
  simp only [this]; omega
 ·simp only [List.mem_cons, List.not_mem_nil, or_false] at hy
  subst hy
  exact ⟨s, hs, rfl, hks, by simp only [hd s hs]; omega⟩
 ·have := hk v hv h1; subst this
  exact ⟨_, List.mem_cons_self .., rfl, (hd v hv).symm⟩
 ·simp only [List.mem_cons, List.not_mem_nil, or_false] at hy
  subst hy; exact Int.le_refl _
 ·by_cases hu : u < n
  ·rw [hn u hu] at h1; cases h1
  ·simp [dnB, hu] at h1
theorem DI.stale (h : DI p l on n s x Pr st done rk D) {y : Ent} {h' : List Ent} (hp : (y :: h').Perm st.h) {v : Nat} (hy : y.node = v) (hv : dnB done v = true) {A : Option Addr} {cap : Nat} {Lo : List Blk} {q : Int} : DI p l on n s x Pr ⟨st.sts, st.dist, h', q, A, cap, Lo⟩ done rk D :=
 { h with
  ent := fun z hz => h.ent z (hp.subset (List.mem_cons_of_mem _ hz))
  live := fun u hu h1 h2 => by
   obtain ⟨z, hz, h3, h4⟩ := h.live u hu h1 h2
   rcases List.mem_cons.1 (hp.symm.subset hz) with rfl | hz
   ·have : u = v := by omega
    subst this; rw [hv] at h2; cases h2
   ·exact ⟨z, hz, h3, h4⟩
  low2 := fun z hz => h.low2 z (hp.subset (List.mem_cons_of_mem _ hz)) }
theorem DI.fresh (h : DI p l on n s x (fun _ _ => True) st done rk D) {y : Ent} {h' : List Ent} (hp : (y :: h').Perm st.h) (hmin : ∀ z ∈ st.h, y.dist ≤ z.dist) {v : Nat} (hy : y.node = v) (hvn : v < n) (hv : dnB done v = false) {A : Option Addr} {cap : Nat} {Lo : List Blk} {q : Int} :
  y.dist = dAt st.dist v ∧ DI p l on n s v (fun _ _ => False) ⟨st.sts, st.dist, h', q, A, cap, Lo⟩ (done.set v true) (fun u => if u = v then (n : Int) - jaN done else rk u) y.dist := by
 have hmem : y ∈ st.h := hp.subset (List.mem_cons_self ..)
 obtain ⟨v', hv', e1, hk, hle⟩ := h.ent y hmem
 have e2 : v' = v := by omega
 subst e2
 obtain ⟨z, hz, z1, z2⟩ := h.live v' hvn hk hv
 have hyd : y.dist = dAt st.dist v' := by have := hmin z hz; omega
 have hvl : v' < done.length := by rw [h.olen]; exact hvn
 have hopen := jb1 done v' hvl hv
 have hdn : ∀ u, dnB (done.set v' true) u = true → u ≠ v' → dnB done u = true := fun u hu hne => by rw [jc3 hvl, if_neg (Ne.symm hne)] at hu; exact hu
 have hdn2 : ∀ u, dnB done u = true → dnB (done.set v' true) u = true ∧ u ≠ v' := fun u hu => by
  rw [jc3 hvl]
  refine ⟨by split; rfl; exact hu, fun he => ?_⟩
  subst he; rw [hv] at hu; cases hu
 have hdn3 : ∀ u, dnB (done.set v' true) u = false → dnB done u = false ∧ u ≠ v' := fun u hu => by
  rw [jc3 hvl] at hu
  split at hu
  ·cases hu
  ·rename_i hne; exact ⟨hu, Ne.symm hne⟩
 refine ⟨hyd, ⟨h.slen, h.dlen, by simp [h.olen], h.src, h.nn, fun u hu h1 h2 => ?_, fun u hu h1 => ?_, fun u hu h1 => ?_, fun u hu h1 h2 => ?_, fun z hz => h.ent z (hp.subset (List.mem_cons_of_mem _ hz)), fun u hu h1 h2 => ?_, fun u hu h1 => ?_, fun z hz => hmin z (hp.subset (List.mem_cons_of_mem _ hz)), fun i fw a b r w hE hb h1 h2 => ?_⟩⟩
 ·obtain ⟨a, i, fw, r, w, ha, hda, hE, hs, hd, hr⟩ := h.par u hu h1 h2
  obtain ⟨q1, q2⟩ := hdn2 a hda
  refine ⟨a, i, fw, r, w, ha, q1, hE, hs, hd, fun hdu => ?_⟩
  simp only [if_neg q2]
  by_cases he : u = v'
  ·rw [if_pos he]; exact (h.dn a ha hda).2.2
  ·rw [if_neg he]; exact hr (hdn u hdu he)
 ·by_cases he : u = v'
  ·subst he; simp only [if_true]
   have := jfW done; rw [h.olen] at this
   exact ⟨hk, by omega, by omega⟩
  ·simp only [if_neg he]
   obtain ⟨q1, q2, q3⟩ := h.dn u hu (hdn u h1 he)
   exact ⟨q1, q2, by omega⟩
 ·by_cases he : u = v'
  ·subst he; simp only [if_true]; exact h.bd2 u hu hk hv
  ·simp only [if_neg he]; exact h.bd u hu (hdn u h1 he)
 ·have := h.bd2 u hu h1 (hdn3 u h2).1
  simp only at this ⊢; omega
 ·obtain ⟨q1, q2⟩ := hdn3 u h2
  obtain ⟨z, hz, z1, z2⟩ := h.live u hu h1 q1
  rcases List.mem_cons.1 (hp.symm.subset hz) with rfl | hz
  ·exact absurd (by omega) q2
  ·exact ⟨z, hz, z1, z2⟩
 ·by_cases he : u = v'
  ·subst he; exact Int.le_of_eq hyd.symm
  ·exact Int.le_trans (h.low u hu (hdn u h1 he)) (h.low2 y hmem)
 ·rcases h2 with h2 | h2
  ·exact h.clo i fw a b r w hE hb (hdn a h1 h2) (.inr trivial)
  ·exact h2.elim
theorem DI.visit (h : DI p l on n s x Pr st done rk D) (ho : OptPot p l on) {i : Nat} {fw : Bool} {a b : Nat} {r w cost : Int} {pots : List Int} (hE : jaZ p l on i fw a b r w) (hx : x < n) (hdx : dnB done x = true) (hD : D = dAt st.dist x) (hb : b < n)
  (hw : w = cost + pots.getD a 0 - pots.getD b 0) (hpa : pots.getD a 0 = p a) (hpb : pots.getD b 0 = p b) (hc : cost ≤ 65536) {st' : NSt} (hV : jfI x (dAt st.dist x) pots done a b i r cost fw st st') :
  DI p l on n s x (fun j f => Pr j f ∨ (j = i ∧ f = fw)) st' done rk D := by
 have hw0 := hE.nonneg ho
 have hxd := h.dn x hx hdx
 have hnx := h.nn x hx hxd.1
 unfold jfI at hV
 by_cases hcc : jec x (dAt st.dist x) pots done st a b cost = true
 ·rw [if_pos hcc] at hV
  obtain ⟨e1, e2, e3, _⟩ := hV
  unfold jec at hcc
  simp only [Bool.and_eq_true, Bool.or_eq_true, Bool.not_eq_true', decide_eq_true_eq] at hcc
  obtain ⟨⟨hax, hdb⟩, hor⟩ := hcc
  subst hax
  generalize hd : dAt st.dist a + cost + pots.getD a 0 - pots.getD b 0 = d at *
  have hdw : d = dAt st.dist a + w := by omega
  have hor : kn st.sts b = false ∨ d < dAt st.dist b := hor
  have hdb : dnB done b = false := hdb
  have hba : b ≠ a := fun he => by rw [he, hdx] at hdb; cases hdb
  have hbs : b ≠ s := fun he => by
   subst he
   rcases hor with q | q
   ·rw [h.src.1] at q; cases q
   ·rw [h.src.2] at q; omega
  have hbl : b < st.sts.length := by rw [h.slen]; exact hb
  have hbl2 : b < st.dist.length := by rw [h.dlen]; exact hb
  have k1 : ∀ v, v ≠ b → kn st'.sts v = kn st.sts v := fun v hv => by rw [e1, jh6 hbl, if_neg (Ne.symm hv)]
  have k2 : kn st'.sts b = true := by rw [e1, jh6 hbl, if_pos rfl]
  have d1 : ∀ v, v ≠ b → dAt st'.dist v = dAt st.dist v := fun v hv => by rw [e2, jbI hbl2, if_neg (Ne.symm hv)]
  have d2 : dAt st'.dist b = d := by rw [e2, jbI hbl2, if_pos rfl]
  have s1 : ∀ v, v ≠ b → st'.sts.getD v default = st.sts.getD v default := fun v hv => by rw [e1, jco hbl, if_neg (Ne.symm hv)]
  have s2 : st'.sts.getD b default = ⟨a, i, r, fw, true, 0⟩ := by rw [e1, jco hbl, if_pos rfl]
  have hnb : ∀ u, dnB done u = true → u ≠ b := fun u hu he => by rw [he, hdb] at hu; cases hu
  refine ⟨by rw [e1]; simp [h.slen], by rw [e2]; simp [h.dlen], h.olen, ⟨by rw [k1 s (Ne.symm hbs)]; exact h.src.1, by rw [d1 s (Ne.symm hbs)]; exact h.src.2⟩, fun v hv hk => ?_, fun v hv hk hvs => ?_, fun v hv hdv => ?_, fun v hv hdv => ?_, fun v hv hk hdv => ?_, fun y hy => ?_, fun v hv hk hdv => ?_, fun v hv hdv => ?_, fun y hy => ?_, fun j f u v r' w' hE' hv hdu hor' => ?_⟩
  ·by_cases hvb : v = b
   ·subst hvb; rw [d2]; omega
   ·rw [d1 v hvb]; exact h.nn v hv (by rw [← k1 v hvb]; exact hk)
  ·by_cases hvb : v = b
   ·subst hvb
    exact ⟨a, i, fw, r, w, hx, hdx, hE, s2, by rw [d2, d1 a (Ne.symm hba)]; exact hdw, fun q => by rw [hdb] at q; cases q⟩
   ·obtain ⟨u, j, f, r', w', q1, q2, q3, q4, q5, q6⟩ := h.par v hv (by rw [← k1 v hvb]; exact hk) hvs
    exact ⟨u, j, f, r', w', q1, q2, q3, by rw [s1 v hvb]; exact q4, by rw [d1 v hvb, d1 u (hnb u q2)]; exact q5, q6⟩
  ·obtain ⟨q1, q2, q3⟩ := h.dn v hv hdv
   exact ⟨by rw [k1 v (hnb v hdv)]; exact q1, q2, q3⟩
  ·rw [d1 v (hnb v hdv)]; exact h.bd v hv hdv
  ·by_cases hvb : v = b
   ·subst hvb
    have := h.bd a hx hdx
    rw [d2]; omega
   ·rw [d1 v hvb]; exact h.bd2 v hv (by rw [← k1 v hvb]; exact hk) hdv
  ·rcases List.mem_append.1 (e3.subset hy) with hy | hy
   ·obtain ⟨v, q1, q2, q3, q4⟩ := h.ent y hy
    by_cases hvb : v = b
    ·subst hvb
     refine ⟨v, q1, q2, k2, ?_⟩
     rcases hor with q | q
     ·rw [q3] at q; cases q
     ·rw [d2]; omega
    ·exact ⟨v, q1, q2, by rw [k1 v hvb]; exact q3, by rw [d1 v hvb]; exact q4⟩
   ·simp only [List.mem_cons, List.not_mem_nil, or_false] at hy
    subst hy
    exact ⟨b, hb, rfl, k2, by rw [d2]; exact Int.le_refl _⟩
  ·by_cases hvb : v = b
   ·subst hvb
    exact ⟨_, e3.symm.subset (List.mem_append_right _ (List.mem_cons_self ..)), rfl, d2.symm⟩
   ·obtain ⟨y, hy, q1, q2⟩ := h.live v hv (by rw [← k1 v hvb]; exact hk) hdv
    exact ⟨y, e3.symm.subset (List.mem_append_left _ hy), q1, by rw [d1 v hvb]; exact q2⟩
  ·rw [d1 v (hnb v hdv)]; exact h.low v hv hdv
  ·rcases List.mem_append.1 (e3.subset hy) with hy | hy
   ·exact h.low2 y hy
   ·simp only [List.mem_cons, List.not_mem_nil, or_false] at hy
    subst hy
    show D ≤ d
    omega
  ·rw [d1 u (hnb u hdu)]
   by_cases hnew : j = i ∧ f = fw
   ·obtain ⟨rfl, rfl⟩ := hnew
    obtain ⟨g1, g2, g3⟩ := hE'.same hE
    subst g1 g2 g3
    exact ⟨k2, by rw [d2]; omega⟩
   ·have hor2 : u ≠ a ∨ Pr j f := by rcases hor' with q | q | q; exact .inl q; exact .inr q; exact absurd q hnew
    obtain ⟨q1, q2⟩ := h.clo j f u v r' w' hE' hv hdu hor2
    by_cases hvb : v = b
    ·subst hvb
     refine ⟨k2, ?_⟩
     rcases hor with q | q
     ·rw [q1] at q; cases q
     ·rw [d2]; omega
    ·exact ⟨by rw [k1 v hvb]; exact q1, by rw [d1 v hvb]; exact q2⟩
 ·rw [if_neg hcc] at hV
  obtain ⟨e1, e2, e3, _⟩ := hV
  have hclo : ∀ j f u v r' w', jaZ p l on j f u v r' w' → v < n → dnB done u = true → (u ≠ x ∨ (Pr j f ∨ (j = i ∧ f = fw))) → kn st.sts v = true ∧ dAt st.dist v ≤ dAt st.dist u + w' := fun j f u v r' w' hE' hv hdu hor' => by
   by_cases hnew : j = i ∧ f = fw
   ·obtain ⟨rfl, rfl⟩ := hnew
    obtain ⟨g1, g2, g3⟩ := hE'.same hE
    subst g1 g2 g3
    by_cases hux : u = x
    ·subst hux
     cases hdv : dnB done v with
     | true =>
      have := h.low v hv hdv
      exact ⟨(h.dn v hv hdv).1, by omega⟩
     | false =>
      have hdv' : done.getD v false = false := hdv
      unfold jec at hcc
      simp only [decide_true, hdv', Bool.not_false, Bool.and_self, Bool.true_and, Bool.or_eq_true, Bool.not_eq_true', decide_eq_true_eq, not_or, Bool.not_eq_false] at hcc
      obtain ⟨c1, c2⟩ := hcc
      refine ⟨c1, ?_⟩
      have c2 : ¬ dAt st.dist u + cost + pots.getD u 0 - pots.getD v 0 < dAt st.dist v := c2
      omega
    ·exact h.clo j f u v r' w' hE' hv hdu (.inl hux)
   ·exact h.clo j f u v r' w' hE' hv hdu (by rcases hor' with q | q | q; exact .inl q; exact .inr q; exact absurd q hnew)
  have hres : DI p l on n s x (fun j f => Pr j f ∨ (j = i ∧ f = fw)) st done rk D := { h with clo := hclo }
  obtain ⟨a1, a2, a3, a4, a5, a6, a7, a8, a9, a10, a11, a12, a13, a14⟩ := hres
  exact ⟨by rw [e1]; exact a1, by rw [e2]; exact a2, a3, by rw [e1, e2]; exact a4, by rw [e1, e2]; exact a5, by rw [e1, e2]; exact a6, by rw [e1]; exact a7, by rw [e2]; exact a8, by rw [e1, e2]; exact a9, by rw [e1, e2, e3]; exact a10, by rw [e1, e2, e3]; exact a11, by rw [e2]; exact a12, by rw [e3]; exact a13, by rw [e1, e2]; exact a14⟩
structure jhO (p : Int → Int) (l : List Arc) (on : List Int) (n s : Nat) (sts : List Step) (dist : List Int) (rk : Nat → Int) : Prop where
 slen : sts.length = n
 dlen : dist.length = n
 src : kn sts s = true ∧ dAt dist s = 0
 nn : ∀ v, v < n → kn sts v = true → 0 ≤ dAt dist v
 bd : ∀ v, v < n → kn sts v = true → dAt dist v + p v ≤ 65536 * n
 rkb : ∀ v, v < n → kn sts v = true → 0 ≤ rk v ∧ rk v ≤ n
 par : ∀ v, v < n → kn sts v = true → v ≠ s → ∃ u i fw r w, u < n ∧ kn sts u = true ∧ jaZ p l on i fw u v r w ∧ sts.getD v default = ⟨u, i, r, fw, true, 0⟩ ∧ dAt dist v = dAt dist u + w ∧ rk u < rk v
 clo : ∀ i fw u v r w, jaZ p l on i fw u v r w → u < n → v < n → kn sts u = true → kn sts v = true ∧ dAt dist v ≤ dAt dist u + w
theorem DI.near (h : DI p l on n s x (fun _ _ => True) st done rk D) (he : st.h = []) : jhO p l on n s st.sts st.dist rk := by
 have hall : ∀ v, v < n → kn st.sts v = true → dnB done v = true := fun v hv hk => by
  cases hd : dnB done v with
  | true => rfl
  | false =>
   obtain ⟨y, hy, _⟩ := h.live v hv hk hd
   rw [he] at hy; cases hy
 have hop : (0 : Int) ≤ jaN done := by omega
 refine ⟨h.slen, h.dlen, h.src, h.nn, fun v hv hk => ?_, fun v hv hk => ?_, fun v hv hk hvs => ?_, fun i fw u v r w hE hu hv hk => h.clo i fw u v r w hE hv (hall u hu hk) (.inr trivial)⟩
 ·have h1 := h.bd v hv (hall v hv hk)
  have h2 := (h.dn v hv (hall v hv hk)).2.2
  omega
 ·have h2 := h.dn v hv (hall v hv hk)
  omega
 ·obtain ⟨u, i, fw, r, w, q1, q2, q3, q4, q5, q6⟩ := h.par v hv hk hvs
  exact ⟨u, i, fw, r, w, q1, (h.dn u q1 q2).1, q3, q4, q5, q6 (hall v hv hk)⟩
theorem jhO.tree (h : jhO p l on n s st.sts st.dist rk) : Tree rk l on n s st.sts := ⟨h.rkb, fun v hv hk hvs => by
 obtain ⟨u, i, fw, r, w, q1, q2, q3, q4, _, q6⟩ := h.par v hv hk hvs
 exact ⟨u, q1, q2, q6, by rw [q4]; exact q3.edge⟩⟩
end
end Go.Proofs.YtgcokllbophkkaaGreat.Flo
