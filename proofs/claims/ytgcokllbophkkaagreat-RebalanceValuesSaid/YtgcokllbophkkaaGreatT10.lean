/-
 Walks: visit, home of a tour.
-/
import Derived.Test.YtgcokllbophkkaaGreatRM3
import Derived.Test.YtgcokllbophkkaaGreatPtr
import Derived.Test.YtgcokllbophkkaaGreatFacts
set_option linter.all false
set_option maxHeartbeats 4000000
namespace Go.Proofs.YtgcokllbophkkaaGreat
open Go Go.W Go.RowKit
structure Vis where
 need : Int
 arrive : Int
 leave : Int
 load : Int
instance : Inhabited Vis := ⟨⟨0, 0, 0, 0⟩⟩
def jbb (v : Vis) : List Value := [I v.need, I v.arrive, I v.leave, I v.load]
def jdR (z : Int) : Int := if z < -z then -z else z
def jat (d cap : Int) (x : z6) (s : TS) : Int := if d < 0 then 15 else if inB (s.load + x.move) 0 cap = true then 0 else 24
def jdw (d hd : Int) (i : Int) (x : z6) (s : TS) : Vis := ⟨i, s.now + d, s.now + d + jdR x.move * hd, s.load + x.move⟩
def jbP (d hd : Int) (x : z6) (s : TS) : TS := ⟨x.node.toNat, s.now + d + jdR x.move * hd, s.load + x.move, s.driven + d⟩
theorem jku (g m i : Nat) (A B C : Option Addr) (l : List Edg) (ns : List z6) (tl ca cb cc : Nat) (hd : Int) (t : q9) (s : TS) (w0 : World) (S : List Nat) (hok : jaL m l) (hs : s.at_ < m) (hb : -100000000000 ≤ s.now ∧ s.now ≤ 100000000000 ∧ -100000000000 ≤ s.driven ∧ s.driven ≤ 100000000000 ∧ -100000 ≤ s.load ∧ s.load ≤ 100000)
  (hi : i < ns.length) (hx : 0 ≤ ns[i].node ∧ ns[i].node < m ∧ -32 ≤ ns[i].move ∧ ns[i].move ≤ 32) (hh : 0 ≤ hd ∧ hd ≤ 3600)
  (hz : ja3 w0 A l) (hA : l ≠ [] → Off A [g]) (hn : k8 2 j8 w0 C ns) (hC : ns ≠ [] → Off C S) (H0 : SH w0 S w0 [⟨g, 83, y5 t (ja6 m A B C l.length tl ns.length ca cb cc hd) s⟩]) (hgS : S = [g]) :
  Calls Tryz.prog 75 #[.pointer (some ⟨g, 0, none⟩), I i] w0 fun e w' => e = .returned (.tuple #[.agg (jbb (if jat (x9 m l s.at_ ns[i].node.toNat) t.cap ns[i] s = 0 then jdw (x9 m l s.at_ ns[i].node.toNat) hd i ns[i] s else default)).toArray, I (jat (x9 m l s.at_ ns[i].node.toNat) t.cap ns[i] s)]) ∧
   (jat (x9 m l s.at_ ns[i].node.toNat) t.cap ns[i] s = 0 → SH w0 S w' [⟨g, 83, y5 t (ja6 m A B C l.length tl ns.length ca cb cc hd) (jbP (x9 m l s.at_ ns[i].node.toNat) hd ns[i] s)⟩]) ∧ ∃ L, SH w0 S w' L := by
 have H := H0
 obtain ⟨v, hv⟩ := Int.eq_ofNat_of_zero_le hx.1
 have hvm : v < m := by omega
 have hvT : ns[i].node.toNat = v := by omega
 rw [hvT]
 have hbd := jca hok hs hvm
 generalize hD : x9 m l s.at_ v = d at *
 have hxa : 0 ≤ jdR ns[i].move ∧ jdR ns[i].move ≤ 32 := by unfold jdR; split <;> omega
 have hmul : 0 ≤ jdR ns[i].move * hd ∧ jdR ns[i].move * hd ≤ 115200 := by
  refine ⟨Int.mul_nonneg hxa.1 hh.1, ?_⟩
  calc jdR ns[i].move * hd ≤ 32 * hd := Int.mul_le_mul_of_nonneg_right hxa.2 hh.1
   _ ≤ 115200 := by omega
 have hmul2 : 0 ≤ (if ns[i].move < -ns[i].move then -ns[i].move else ns[i].move) * hd ∧ (if ns[i].move < -ns[i].move then -ns[i].move else ns[i].move) * hd ≤ 115200 := hmul
 obtain ⟨bn, on, rfl, hc⟩ := hn i hi
 have hnb : bn ∉ S := hC (by intro h; subst h; simp at hi) bn on rfl
 have hcd : j8 ns[i] = [I v, I ns[i].move] := by unfold j8; rw [hv]
 unfold y5 k5 ja6 at H
 simp only [List.cons_append, List.nil_append] at H
 refine Calls.ofWPc Tryz.func75 rfl Tryz.results75 Tryz.ntmps75 rfl<|Y.qr<|Y.al H rfl rfl ?_
 clear H; intro g4 w H
 refine Y.bz rfl<|Y.qr<|Y.D rfl<|Y.C rfl<|Y.F rfl<|Y.W H 1 rfl<|Y.a rfl<|Y.U rfl ?_
 have hc' := jbT H hnb hc
 rw [hcd] at hc'
 refine Y.v (by (change Ev _ _ _ _ (Op.load 68 (Operand.tmp 15)) _; exact Ev.loadN [I v, I ns[i].move] (j6 rfl) (j4 rfl) rfl hc'))<|Y.al H rfl rfl ?_
 clear H; intro g6 w H
 refine Y.st 0 H rfl (cA rfl) rfl ?_
 clear H; intro w H
 simp only [List.set_cons_zero, List.set_cons_succ, jam, Nat.zero_add] at H
 refine Y.z<|Y.qq<|Y.D rfl<|Y.W H 0 rfl<|Y.c2 20 rfl (jgB g m v A B (some ⟨bn, on, none⟩) l tl ns.length ca cb cc hd t s w [g] hok hvm hs (by omega) (rowsS hz (by rw [hgS]; exact hA) H) hA (H.restart (Lv := [⟨g, 83, y5 t (ja6 m A B (some ⟨bn, on, none⟩) l.length tl ns.length ca cb cc hd) s⟩]) (((List.Sublist.refl _).cons _).cons _))) ?_
 rintro _ w ⟨rfl, hdr, Lx, Hx⟩
 refine ⟨_, rfl, ?_⟩
 rw [hD] at hdr
 have Hg : 0 ≤ d → SH w0 S w _ := fun h => SH.call (L1 := [_, _]) (Lv := [⟨g, 83, y5 t (ja6 m A B (some ⟨bn, on, none⟩) l.length tl ns.length ca cb cc hd) s⟩]) H (hdr h)
 replace H := SH.call (L1 := [_, _]) (Lv := [⟨g, 83, y5 t (ja6 m A B (some ⟨bn, on, none⟩) l.length tl ns.length ca cb cc hd) s⟩]) H Hx
 clear hdr Hx
 rw [hD]
 refine Y.bz rfl<|Y.qr<|Y.a rfl<|Y.V rfl<|Y.z ?_
 refine WP.cond rfl (fun hc3 => ?_) (fun hc3 => ?_)
 ·have hdn : d < 0 := by
   rcases Int.lt_or_le d 0 with h | h
   ·exact h
   ·rw [jdW, if_neg (by omega)] at hc3; simp at hc3
  rw [jdW, if_pos hdn]
  clear Hg
  refine Y.qr<|Y.v (Ev.build (jik (e := fun _ => .int .i64 0)))<|Y.a rfl<|Y.ss 1 H rfl (cA rfl) rfl ?_
  clear H; intro w H
  refine Y.bz rfl ?_
  refine WP.ret ⟨[_, _], ⟨(by exact x6 1 H rfl (j6 rfl) (j4 rfl) (by rfl) rfl), rfl, trivial⟩, ?_⟩
  have he : jat d t.cap ns[i] s = 15 := by rw [jat, if_pos hdn]
  rw [he]
  exact ⟨by rw [if_neg (by decide)]; rfl, fun h => absurd h (by decide), _, H⟩
 have hdp : 0 ≤ d := by
  rcases Int.lt_or_le d 0 with h | h
  ·rw [jdW, if_pos h] at hc3; simp at hc3
  ·exact h
 replace H := Hg hdp
 clear Hg
 unfold y5 k5 ja6 jiE at H
 simp only [List.cons_append, List.nil_append] at H
 refine Y.k<|Y.q<|Y.q<|WP.rquiet mixed (by kernel_rfl) H ?_
 clear H; intro w hbw5 H
 refine Y.D rfl<|Y.C rfl<|Y.W H 2 rfl<|Y.W H 0 rfl<|Y.P rfl<|Y.D rfl<|Y.C rfl<|Y.F rfl<|Y.W H 2 rfl<|OPS.callq rfl rfl rfl (EvC.func (z7 rfl)) (fun w2 hb2 => jc7 _ _ _ _) ?_
 refine Y.v (Ev.not rfl)<|OPS.nilq H ?_
 clear H; intro w hbx5 H
 refine WP.cond rfl (fun hc5 => ?_) (fun hc5 => ?_)
 ·refine Y.qr<|Y.v (Ev.build (jik (e := fun _ => .int .i64 0)))<|Y.ss 1 H rfl (cA rfl) rfl ?_
  clear H; intro w H
  refine Y.bz rfl ?_
  refine WP.ret ⟨[_, _], ⟨(by exact x6 1 H rfl (j6 rfl) (j4 rfl) (by rfl) rfl), rfl, trivial⟩, ?_⟩
  have he : jat d t.cap ns[i] s = 24 := by rw [jat, if_neg (by omega), if_neg (by simpa using hc5)]
  rw [he]
  exact ⟨by rw [if_neg (by decide)]; rfl, fun h => absurd h (by decide), _, H⟩
 have hok5 : inB (s.load + ns[i].move) 0 t.cap = true := by simpa using hc5
 have he : jat d t.cap ns[i] s = 0 := by rw [jat, if_neg (by omega), if_pos hok5]
 rw [he]
 refine Y.k<|Y.qr<|Y.a rfl<|Y.D rfl<|Y.C rfl<|Y.W H 2 rfl<|Y.v (Ev.build (jhC rfl rfl))<|Y.al H rfl rfl ?_
 clear H; intro g8 w H
 refine Y.ss 0 H rfl (cA rfl) rfl ?_
 clear H; intro w H
 refine Y.z<|Y.q<|WP.rtail 9 mixed (by kernel_rfl) H ?_
 clear H; intro w hbw8 H
 refine Y.D rfl<|Y.C rfl<|Y.W H 3 rfl<|Y.W H 1 rfl<|Y.P rfl<|Y.C rfl<|Y.F rfl<|OPS.nil_s<|Y.ss 3 H rfl (cI rfl) rfl ?_
 clear H; intro w H
 refine Y.z<|Y.q<|WP.rtail 19 mixed (by kernel_rfl) H ?_
 clear H; intro w hbw9 H
 refine Y.D rfl<|Y.C rfl<|Y.W H 3 rfl<|Y.W H 1 rfl<|Y.W H 1 rfl<|Y.v (Ev.neg rfl (by unfold fits; omega))<|Y.v (Ev.max rfl rfl)<|Y.D rfl<|Y.C rfl<|Y.F rfl<|Y.W H 3 rfl<|Y.v (Ev.mul rfl rfl (by unfold fits; omega))<|Y.P rfl<|Y.C rfl<|Y.F rfl<|OPS.nil_s<|Y.ss 3 H rfl (cI rfl) rfl ?_
 clear H; intro w H
 refine Y.z<|Y.q ?_
 have Hf := H
 replace H := H.drop (L' := [_]) ((((List.Sublist.refl _).cons _).cons _).cons _)
 refine WP.rheldC [74, 75, 76, 77, 78, 79, 80, 81, 82, 83] (fun _ w' => SH w0 S w' [⟨g8, 127, jbb (jdw d hd i ns[i] s)⟩, ⟨g6, 68, [I v, I ns[i].move]⟩, ⟨g4, 127, [I 0, I 0, I 0, I 0]⟩, ⟨g, 83, y5 t (ja6 m A B (some ⟨bn, on, none⟩) l.length tl ns.length ca cb cc hd) (jbP d hd ns[i] s)⟩]) mixed H ?_ ?_
 ·clear H; intro w hbw10 H
  refine Y.t 0 H rfl rfl (fun w H => Ev.mvP rfl)<|Y.t 1 H rfl rfl (fun w H => Ev.nilCheckP rfl)<|Y.tf 2 H rfl<|Y.tl 3 H 0 rfl<|Y.t 4 H rfl rfl (fun w H => Ev.mvP rfl)<|Y.t 5 H rfl rfl (fun w H => Ev.nilCheckP rfl)<|Y.tf 6 H rfl<|Y.tl 7 H 0 rfl<|Y.tf 8 H rfl<|Y.A1 9 rfl rfl ?_
  try replace Hf := Hf.toBelow hbw10
  refine Y.st 0 Hf rfl (cI rfl) rfl ?_
  clear H Hf; intro w Hf
  simp only [List.set_cons_zero, List.set_cons_succ, jam, Nat.zero_add] at Hf
  have H := Hf.drop (L' := [_]) ((((List.Sublist.refl _).cons _).cons _).cons _)
  refine Y.z <| ⟨(H), ?_⟩
  refine Y.tf 10 H rfl<|Y.A1 11 rfl rfl ?_
  try replace Hf := Hf.toBelow hbw10
  refine Y.st 0 Hf rfl (cI rfl) rfl ?_
  clear H Hf; intro w Hf
  simp only [List.set_cons_zero, List.set_cons_succ, jam, Nat.zero_add] at Hf
  have H := Hf.drop (L' := [_]) ((((List.Sublist.refl _).cons _).cons _).cons _)
  refine Y.z <| ⟨(H), ?_⟩
  refine Y.dn ?_
  exact ⟨Y.ag, (by unfold jbP; rw [hvT]; exact Hf)⟩
 clear H
 rintro u w H
 refine Y.qr<|Y.O H 0 rfl<|Y.ss 2 H rfl (cA rfl) rfl ?_
 clear H; intro w H
 refine Y.bz rfl ?_
 refine WP.ret ⟨[_, _], ⟨(by exact x6 2 H rfl (j6 rfl) (j4 rfl) (by rfl) rfl), rfl, trivial⟩, ?_⟩
 exact ⟨rfl, fun _ => H.drop (L' := [_]) ((((List.Sublist.refl _).cons _).cons _).cons _), _, H⟩
def jce (d hd : Int) (t : q9) (s : TS) : Int := if d < 0 then 15 else if t.to_ < s.now + d + s.load * hd then 25 else 0
def jf9 (d hd : Int) (t : q9) (s : TS) : TS := ⟨t.depot.toNat, s.now + d + s.load * hd, s.load, s.driven + d⟩
theorem jmE (g m : Nat) (A B C : Option Addr) (l : List Edg) (tl nl ca cb cc : Nat) (hd : Int) (t : q9) (s : TS) (w0 : World) (hok : jaL m l) (hs : s.at_ < m) (hb : -100000000000 ≤ s.now ∧ s.now ≤ 100000000000 ∧ -100000000000 ≤ s.driven ∧ s.driven ≤ 100000000000 ∧ -100000 ≤ s.load ∧ s.load ≤ 100000)
  (hx : 0 ≤ t.depot ∧ t.depot < m) (hh : 0 ≤ hd ∧ hd ≤ 3600)
  (hz : ja3 w0 A l) (hA : l ≠ [] → Off A [g]) (H0 : SH w0 [g] w0 [⟨g, 83, y5 t (ja6 m A B C l.length tl nl ca cb cc hd) s⟩]) :
  Calls Tryz.prog 76 #[.pointer (some ⟨g, 0, none⟩)] w0 fun e w' => e = .returned (I (jce (x9 m l s.at_ t.depot.toNat) hd t s)) ∧
   (jce (x9 m l s.at_ t.depot.toNat) hd t s = 0 → SH w0 [g] w' [⟨g, 83, y5 t (ja6 m A B C l.length tl nl ca cb cc hd) (jf9 (x9 m l s.at_ t.depot.toNat) hd t s)⟩]) ∧ ∃ L, SH w0 [g] w' L := by
 have H := H0
 obtain ⟨v, hv⟩ := Int.eq_ofNat_of_zero_le hx.1
 have hvm : v < m := by omega
 have hvT : t.depot.toNat = v := by omega
 rw [hvT]
 have hbd := jca hok hs hvm
 generalize hD : x9 m l s.at_ v = d at *
 have hmul : -360000000 ≤ s.load * hd ∧ s.load * hd ≤ 360000000 := by
  have h1 : s.load * hd ≤ 100000 * hd := Int.mul_le_mul_of_nonneg_right hb.2.2.2.2.2 hh.1
  have h2 : -100000 * hd ≤ s.load * hd := Int.mul_le_mul_of_nonneg_right hb.2.2.2.2.1 hh.1
  omega
 unfold y5 k5 ja6 at H
 simp only [List.cons_append, List.nil_append] at H
 rw [hv] at H
 refine Calls.ofWP Tryz.func76 rfl Tryz.results76 Tryz.ntmps76 rfl<|Y.qr<|Y.bz rfl<|Y.qq<|Y.D rfl<|Y.D rfl<|Y.C rfl<|Y.F rfl<|Y.W H 0 rfl<|Y.c2 10 rfl (jgB g m v A B C l tl nl ca cb cc hd t s w0 [g] hok hvm hs (by omega) hz hA H0) ?_
 rintro _ w ⟨rfl, Hg, Lx, Hx⟩
 refine ⟨_, rfl, ?_⟩
 rw [hD] at Hg
 replace H := Hx
 clear Hx
 rw [hD]
 refine Y.bz rfl<|Y.qr<|Y.a rfl<|Y.V rfl<|Y.z ?_
 refine WP.cond rfl (fun hc2 => ?_) (fun hc2 => ?_)
 ·have hdn : d < 0 := by
   rcases Int.lt_or_le d 0 with h | h
   ·exact h
   ·rw [jdW, if_neg (by omega)] at hc2; simp at hc2
  rw [jdW, if_pos hdn]
  clear Hg
  refine Y.qr<|Y.a rfl<|Y.bz rfl ?_
  refine WP.ret ⟨_, rfl, ?_⟩
  have he : jce d hd t s = 15 := by rw [jce, if_pos hdn]
  rw [he]
  exact ⟨rfl, fun h => absurd h (by decide), _, H⟩
 have hdp : 0 ≤ d := by
  rcases Int.lt_or_le d 0 with h | h
  ·rw [jdW, if_pos h] at hc2; simp at hc2
  ·exact h
 replace H := Hg hdp
 clear Hg
 unfold y5 k5 ja6 jiE at H
 simp only [List.cons_append, List.nil_append] at H
 refine Y.k<|Y.q<|WP.rtail 17 mixed (by kernel_rfl) H ?_
 clear H; intro w hbw4 H
 refine Y.D rfl<|Y.C rfl<|Y.W H 0 rfl<|Y.D rfl<|Y.C rfl<|Y.W H 0 rfl<|Y.D rfl<|Y.C rfl<|Y.F rfl<|Y.W H 0 rfl<|Y.v (Ev.mul rfl rfl (by unfold fits; omega))<|Y.P rfl<|Y.C rfl<|Y.F rfl<|OPS.nil_s<|Y.ss 0 H rfl (cI rfl) rfl ?_
 clear H; intro w H
 refine Y.z<|Y.q<|Y.q<|WP.rstill mixed (by kernel_rfl) H ?_
 clear H; intro w hbw5 H
 refine Y.D rfl<|Y.C rfl<|Y.W H 0 rfl<|Y.D rfl<|Y.C rfl<|Y.F rfl<|Y.F rfl<|Y.W H 0 rfl<|Y.v (Ev.gtr rfl rfl)<|OPS.nil_s ?_
 refine WP.cond rfl (fun hc5 => ?_) (fun hc5 => ?_)
 ·refine Y.qr<|Y.bz rfl ?_
  refine WP.ret ⟨_, rfl, ?_⟩
  have hlt : t.to_ < s.now + d + s.load * hd := by simpa using hc5
  have he : jce d hd t s = 25 := by rw [jce, if_neg (by omega), if_pos hlt]
  rw [he]
  exact ⟨rfl, fun h => absurd h (by decide), _, H⟩
 refine Y.k<|Y.qr<|Y.bz rfl ?_
 refine WP.ret ⟨_, rfl, ?_⟩
 have hlt : ¬ t.to_ < s.now + d + s.load * hd := by simpa using hc5
 have he : jce d hd t s = 0 := by rw [jce, if_neg (by omega), if_neg hlt]
 rw [he]
 exact ⟨rfl, fun _ => by unfold jf9; rw [hvT]; exact H, _, H⟩
end Go.Proofs.YtgcokllbophkkaaGreat
namespace Go.Proofs.YtgcokllbophkkaaGreat
open Go Go.W Go.RowKit
section
variable (D : Nat → Nat → Int) (cap hd : Int) (ns : List z6)
def jaw (i : Int) : z6 := ns.getD i.toNat default
def goD (i : Int) (s : TS) : Int := D s.at_ (jaw ns i).node.toNat
def goT : List Int → TS → TS
 | [], s => s
 | i :: r, s => goT r (jbP (goD D ns i s) hd (jaw ns i) s)
def goE : List Int → TS → Int
 | [], _ => 0
 | i :: r, s => if jat (goD D ns i s) cap (jaw ns i) s ≠ 0 then jat (goD D ns i s) cap (jaw ns i) s else goE r (jbP (goD D ns i s) hd (jaw ns i) s)
def goV : List Int → TS → List Vis
 | [], _ => []
 | i :: r, s => jdw (goD D ns i s) hd i (jaw ns i) s :: goV r (jbP (goD D ns i s) hd (jaw ns i) s)
theorem jf7 : ∀ (a b : List Int) (s : TS), goT D hd ns (a ++ b) s = goT D hd ns b (goT D hd ns a s)
 | [], _, _ => rfl
 | _ :: a, b, s => jf7 a b _
theorem jhp : ∀ (a b : List Int) (s : TS), goV D hd ns (a ++ b) s = goV D hd ns a s ++ goV D hd ns b (goT D hd ns a s)
 | [], _, _ => rfl
 | _ :: a, b, s => congrArg (_ :: ·) (jhp a b _)
theorem jed : ∀ (a b : List Int) (s : TS), goE D cap hd ns (a ++ b) s = if goE D cap hd ns a s ≠ 0 then goE D cap hd ns a s else goE D cap hd ns b (goT D hd ns a s)
 | [], b, s => by simp [goE, goT]
 | i :: a, b, s => by
  have h := jed a b (jbP (goD D ns i s) hd (jaw ns i) s)
  show (if jat (goD D ns i s) cap (jaw ns i) s ≠ 0 then jat (goD D ns i s) cap (jaw ns i) s else goE D cap hd ns (a ++ b) (jbP (goD D ns i s) hd (jaw ns i) s)) = _
  rw [h]
  simp only [goE, goT]
  by_cases hv : jat (goD D ns i s) cap (jaw ns i) s = 0
  ·simp [hv]
  ·simp [hv]
theorem jhI : ∀ (a : List Int) (s : TS), (goV D hd ns a s).length = a.length
 | [], _ => rfl
 | _ :: a, s => congrArg (· + 1) (jhI a _)
end
def y3 (t : q9) : TS := ⟨t.depot.toNat, t.from_, 0, 0⟩
def jc5 (k i : Int) : Bool := !inB i 0 (k - 1)
def y4 (ts : List q9) (ns : List z6) (rt : Int) (rn : List Int) : Int :=
 if jc5 ts.length rt = true ∨ rn.any (jc5 ns.length) = true then 7 else if jaA rn = true then 6 else 0
noncomputable def jac (n : Int) (l : List Edg) (a v : Nat) : Int := x9 n.toNat l a v
noncomputable def jg8 (n : Int) (l : List Edg) (ts : List q9) (ns : List z6) (hd : Int) (rt : Int) (rn : List Int) : TS :=
 goT (jac n l) hd ns rn (y3 (ts.getD rt.toNat default))
noncomputable def y7 (n : Int) (l : List Edg) (ts : List q9) (ns : List z6) (hd : Int) (rt : Int) (rn : List Int) : Int :=
 if q7 n l ts ns hd ≠ 0 then q7 n l ts ns hd else if y4 ts ns rt rn ≠ 0 then y4 ts ns rt rn
 else if goE (jac n l) (ts.getD rt.toNat default).cap hd ns rn (y3 (ts.getD rt.toNat default)) ≠ 0 then goE (jac n l) (ts.getD rt.toNat default).cap hd ns rn (y3 (ts.getD rt.toNat default))
 else jce (jac n l (jg8 n l ts ns hd rt rn).at_ (ts.getD rt.toNat default).depot.toNat) hd (ts.getD rt.toNat default) (jg8 n l ts ns hd rt rn)
noncomputable def jef (n : Int) (l : List Edg) (ts : List q9) (ns : List z6) (hd : Int) (rt : Int) (rn : List Int) : TS :=
 jf9 (jac n l (jg8 n l ts ns hd rt rn).at_ (ts.getD rt.toNat default).depot.toNat) hd (ts.getD rt.toNat default) (jg8 n l ts ns hd rt rn)
noncomputable def jfm (n : Int) (l : List Edg) (ts : List q9) (ns : List z6) (hd : Int) (rt : Int) (rn : List Int) : List Vis :=
 goV (jac n l) hd ns rn (y3 (ts.getD rt.toNat default))
structure jbU (m : Nat) (l : List Edg) (ts : List q9) (ns : List z6) (hd : Int) : Prop where
 road : jaL m l
 tl : ts.length ≤ 8
 nl : ns.length ≤ 16
 tr : ∀ t ∈ ts, (0 ≤ t.depot ∧ t.depot < m) ∧ (1 ≤ t.cap ∧ t.cap ≤ 32) ∧ 0 ≤ t.from_ ∧ t.from_ ≤ t.to_ ∧ t.to_ ≤ 86400
 nd : ∀ x ∈ ns, (0 ≤ x.node ∧ x.node < m) ∧ x.move ≠ 0 ∧ -32 ≤ x.move ∧ x.move ≤ 32
 hh : 0 ≤ hd ∧ hd ≤ 3600
 one : (ns.map (·.node)).Nodup
theorem jaO {n : Int} {l : List Edg} {ts : List q9} {ns : List z6} {hd : Int} (h : q7 n l ts ns hd = 0) : ∃ m : Nat, n = m ∧ jbU m l ts ns hd := by
 unfold q7 at h
 split at h
 ·rename_i h1; exact absurd h h1
 ·rename_i h1
  obtain ⟨m, rfl, hok⟩ := je3 (by simpa using h1)
  split at h
  ·cases h
  ·rename_i h2
   split at h
   ·rename_i h3; exact absurd h h3
   ·rename_i h3
    split at h
    ·rename_i h4; exact absurd h h4
    ·rename_i h4
     split at h
     ·cases h
     ·rename_i h5
      split at h
      ·rename_i h6
       have h2' : ts.length ≤ 8 ∧ ns.length ≤ 16 := by simp [jfs] at h2; omega
       refine ⟨m, rfl, hok, h2'.1, h2'.2, fun t ht => ?_, fun x hx => ?_, by simpa [inB] using h6, ?_⟩
       ·have := jeD (by simpa using h3) t ht
        simp [jbc, jaK, inB] at this
        omega
       ·have := jeZ (by simpa using h4) x hx
        simp [jbv, jaY, inB] at this
        omega
       ·simpa [jbd, jaA] using h5
      ·cases h
theorem je8 {rn : List Int} {N : Nat} (h1 : rn.Nodup) (h2 : ∀ i ∈ rn, 0 ≤ i ∧ i < N) : rn.length ≤ N := by
 have h3 : (rn.map Int.toNat).Nodup := by
  rw [List.nodup_iff_pairwise_ne, List.pairwise_map]
  refine List.Pairwise.imp_of_mem ?_ (List.nodup_iff_pairwise_ne.1 h1)
  intro a b ha hb hne he
  have := h2 a ha
  have := h2 b hb
  omega
 have h4 : (rn.map Int.toNat).length ≤ (List.range N).length := by
  refine List.Nodup.length_le_of_subset h3 (fun x hx => ?_)
  obtain ⟨i, hi, rfl⟩ := List.mem_map.1 hx
  have := h2 i hi
  simp; omega
 simpa using h4
theorem jbX {ts : List q9} {ns : List z6} {rt : Int} {rn : List Int} (h : y4 ts ns rt rn = 0) : (0 ≤ rt ∧ rt < ts.length) ∧ (∀ i ∈ rn, 0 ≤ i ∧ i < ns.length) ∧ rn.Nodup ∧ rn.length ≤ ns.length := by
 unfold y4 at h
 split at h
 ·cases h
 ·rename_i h1
  split at h
  ·cases h
  ·rename_i h2
   have h3 : rn.Nodup := by simpa [jaA] using h2
   have h4 : ∀ i ∈ rn, 0 ≤ i ∧ i < ns.length := fun i hi => by
    have h5 : jc5 ns.length i = false := by
     cases hc : jc5 ns.length i with
     | true => exact absurd (Or.inr (List.any_eq_true.2 ⟨i, hi, hc⟩)) h1
     | false => rfl
    simp [jc5, inB] at h5; omega
   refine ⟨?_, h4, h3, je8 h3 h4⟩
   have h5 : jc5 ts.length rt = false := by
    cases hc : jc5 ts.length rt with
    | true => exact absurd (Or.inl hc) h1
    | false => rfl
   simp [jc5, inB] at h5; omega
structure jkO (m : Nat) (cap : Int) (j : Nat) (s : TS) : Prop where
 at_ : s.at_ < m
 now : 0 ≤ s.now ∧ s.now ≤ 86400 + 200000 * j
 driven : 0 ≤ s.driven ∧ s.driven ≤ 64000 * j
 load : 0 ≤ s.load ∧ s.load ≤ cap
end Go.Proofs.YtgcokllbophkkaaGreat
namespace Go.Proofs.YtgcokllbophkkaaGreat
open Go Go.W Go.RowKit
theorem jjF {d cap : Int} {x : z6} {s : TS} (h : jat d cap x s = 0) : 0 ≤ d ∧ 0 ≤ s.load + x.move ∧ s.load + x.move ≤ cap := by
 unfold jat at h
 split at h
 ·cases h
 ·split at h
  ·rename_i h1 h2
   simp [inB] at h2
   omega
  ·cases h
theorem jkO.step {m j : Nat} {l : List Edg} {cap hd : Int} {x : z6} {s : TS} (h : jkO m cap j s) (hok : jaL m l) (hx : (0 ≤ x.node ∧ x.node < m) ∧ x.move ≠ 0 ∧ -32 ≤ x.move ∧ x.move ≤ 32) (hh : 0 ≤ hd ∧ hd ≤ 3600) (hv : jat (x9 m l s.at_ x.node.toNat) cap x s = 0) : jkO m cap (j + 1) (jbP (x9 m l s.at_ x.node.toNat) hd x s) := by
 obtain ⟨h1, h2, h3⟩ := jjF hv
 have hbd := jca hok h.at_ (v := x.node.toNat) (by omega)
 generalize x9 m l s.at_ x.node.toNat = d at *
 have hxa : 0 ≤ jdR x.move ∧ jdR x.move ≤ 32 := by unfold jdR; split <;> omega
 have hmul : 0 ≤ jdR x.move * hd ∧ jdR x.move * hd ≤ 115200 := by
  refine ⟨Int.mul_nonneg hxa.1 hh.1, ?_⟩
  calc jdR x.move * hd ≤ 32 * hd := Int.mul_le_mul_of_nonneg_right hxa.2 hh.1
   _ ≤ 115200 := by omega
 have := h.now
 have := h.driven
 refine ⟨?_, ?_, ?_, ?_⟩
 ·show x.node.toNat < m; omega
 ·show 0 ≤ s.now + d + jdR x.move * hd ∧ s.now + d + jdR x.move * hd ≤ 86400 + 200000 * ((j + 1 : Nat) : Int)
  omega
 ·show 0 ≤ s.driven + d ∧ s.driven + d ≤ 64000 * ((j + 1 : Nat) : Int)
  omega
 ·exact ⟨h2, h3⟩
theorem jkO.start {m : Nat} {t : q9} (h : (0 ≤ t.depot ∧ t.depot < m) ∧ (1 ≤ t.cap ∧ t.cap ≤ 32) ∧ 0 ≤ t.from_ ∧ t.from_ ≤ t.to_ ∧ t.to_ ≤ 86400) : jkO m t.cap 0 (y3 t) := by
 refine ⟨?_, ?_, ?_, ?_⟩
 ·show t.depot.toNat < m; omega
 ·show 0 ≤ t.from_ ∧ t.from_ ≤ 86400 + 200000 * ((0 : Nat) : Int); omega
 ·show (0 : Int) ≤ 0 ∧ (0 : Int) ≤ 64000 * ((0 : Nat) : Int); omega
 ·show (0 : Int) ≤ 0 ∧ 0 ≤ t.cap; omega
theorem rot3 {a b c : Blk} {Lo : List Blk} : ([a, b, c] ++ Lo).Perm (([b, c] ++ Lo) ++ [a]) := (List.perm_append_singleton a ([b, c] ++ Lo)).symm
theorem rot4 {v a b c : Blk} {Lo : List Blk} : (v :: (([b, c] ++ Lo) ++ [a])).Perm ([v, a, b, c] ++ Lo) := List.Perm.cons _ (List.perm_append_singleton a ([b, c] ++ Lo))
theorem jiW (i : Int) (g k cc : Nat) (C : Option Addr) (w0 : World) (hk : k ≤ 1000) (hc : w0.cell? ⟨g, 3, none⟩ = some (.slice C k cc)) :
  Calls Tryz.prog 74 #[I i, .pointer (some ⟨g, 0, none⟩)] w0 fun e w' => e = .returned (.bool (jc5 k i)) ∧ Below w0.heap.size w0 w' := by
 have H := SH.refl w0
 refine Calls.ofWP Tryz.func74 rfl Tryz.results74 Tryz.ntmps74 rfl<|Y.qr<|Y.aB rfl<|Y.z<|Y.qr<|Y.a rfl<|Y.F rfl<|Y.v (Y.c (H.ld0 (by assumption)) rfl) ?_
 refine Y.E rfl<|Y.Q rfl<|Y.cl 9 rfl (jc7 _ _ _ _) H ?_
 clear H; intro w H
 refine Y.v (Ev.not rfl)<|Y.aB rfl<|Y.z ?_
 refine WP.ret ⟨_, rfl, ?_⟩
 exact ⟨rfl, H.below⟩
theorem jfi (n hd rt : Int) (A B C R : Option Addr) (l : List Edg) (ts : List q9) (ns : List z6) (rn : List Int) (ca cb cc cr : Nat) (w0 : World) (hz : ja3 w0 A l) (ht : k8 4 k5 w0 B ts) (hn : k8 2 j8 w0 C ns) (hcc : ns.length ≤ cc) (hr : k9 w0 R rn) (hrl : rn.length ≤ maxLen) (hrc : rn.length ≤ cr) :
  Calls Tryz.prog 41 #[.agg #[I n, .slice A l.length ca, .slice B ts.length cb, .slice C ns.length cc, I hd], .agg #[I rt, .slice R rn.length cr]] w0 fun e w' =>
   (y7 n l ts ns hd rt rn ≠ 0 → e = .returned (.tuple #[.pointer none, .slice none 0 0, I (y7 n l ts ns hd rt rn)]) ∧ SH w0 [] w' []) ∧
   (y7 n l ts ns hd rt rn = 0 → ∃ (g m : Nat) (V : Option Addr) (cv : Nat) (Lv : List Blk), n = m ∧ e = .returned (.tuple #[.pointer (some ⟨g, 0, none⟩), .slice V rn.length cv, I 0]) ∧ OwnS V cv rn.length ((jfm n l ts ns hd rt rn).flatMap jbb) 127 4 Lv ∧
    SH w0 [] w' ([⟨g, 83, y5 (ts.getD rt.toNat default) (ja6 m A B C l.length ts.length ns.length ca cb cc hd) (jef n l ts ns hd rt rn)⟩] ++ Lv)) := by
 have H := SH.refl w0
 refine Calls.ofWP Tryz.func41 rfl Tryz.results41 Tryz.ntmps41 rfl<|Y.qr<|Y.bx (cA rfl) H ?_
 clear H; intro g2 w H
 refine Y.bx (cA rfl) H ?_
 clear H; intro g3 w H
 refine Y.v (Ev.asP rfl)<|Y.aS rfl<|Y.bz rfl<|Y.qq<|Y.O H 1 rfl<|Y.cl 16 rfl (jcA n hd A B C l ts ns ca cb cc w (hz.sh H) (ht.sh H) (hn.sh H) hcc) H ?_
 clear H; intro w H
 refine Y.bz rfl<|Y.qr<|Y.a rfl<|Y.V rfl<|Y.z ?_
 refine WP.cond rfl (fun hc2 => ?_) (fun hc2 => ?_)
 ·refine Y.qr<|Y.a rfl<|Y.v (Ev.asP rfl)<|Y.aS rfl<|Y.bz rfl ?_
  refine WP.ret ⟨_, rfl, ?_⟩
  have h : q7 n l ts ns hd ≠ 0 := by simpa using hc2
  have he : y7 n l ts ns hd rt rn = q7 n l ts ns hd := by rw [y7, if_pos h]
  rw [he]
  exact ⟨fun _ => ⟨rfl, H.reidx [] (by decide) rfl⟩, fun h2 => absurd h2 h⟩
 have h0 : q7 n l ts ns hd = 0 := by simpa using hc2
 obtain ⟨m, rfl, hN⟩ := jaO h0
 have htl := hN.tl
 have hnl := hN.nl
 have hh := hN.hh
 refine Y.k<|Y.qq<|Y.W H 0 rfl<|Y.W H 1 rfl<|Y.E rfl<|Y.Q rfl<|Y.cl 26 rfl (jc7 _ _ _ _) H ?_
 clear H; intro w H
 refine Y.v (Ev.not rfl)<|Y.B rfl<|Y.gf rfl<|Y.yy H 0 rfl<|Y.g rfl rfl (fun hg => Ev.makeFunc)<|OPS.gcall0 (f := 73) (jc4 R rn cr _ [.pointer (some ⟨g2, 0, none⟩)] (jc5 ns.length) _ (hr.sh H) hrl rfl (fun i _ w2 hb => jiW i g2 ns.length cc C w2 (by omega) (cell_below hb (H.ldL 1 rfl 3 rfl)))) (fun _ _ h => h) rfl rfl rfl rfl rfl (fun hg => EvC.conv (EvC.func (z7 rfl)) (l2 (gvE hg rfl) (gvE hg rfl))) ?_
 intro w hbc; replace H := H.toBelow hbc
 refine Y.po rfl<|Y.z ?_
 refine WP.cond rfl (fun hc4 => ?_) (fun hc4 => ?_)
 ·refine Y.qr<|Y.v (Ev.asP rfl)<|Y.aS rfl<|Y.bz rfl ?_
  refine WP.ret ⟨_, rfl, ?_⟩
  have he : y4 ts ns rt rn = 7 := by
   unfold y4
   rw [if_pos]
   simpa [jc5] using hc4
  have hw : y7 m l ts ns hd rt rn = 7 := by rw [y7, if_neg (by simp [h0]), if_pos (by rw [he]; decide), he]
  rw [hw]
  exact ⟨fun _ => ⟨rfl, H.reidx [] (by decide) rfl⟩, fun h2 => absurd h2 (by decide)⟩
 refine Y.k<|Y.qq<|Y.W H 0 rfl<|Y.cl 36 rfl (jet R rn cr _ (hr.sh H) hrl hrc) H ?_
 clear H; intro w H
 refine Y.z ?_
 refine WP.cond rfl (fun hc6 => ?_) (fun hc6 => ?_)
 ·refine Y.qr<|Y.v (Ev.asP rfl)<|Y.aS rfl<|Y.bz rfl ?_
  refine WP.ret ⟨_, rfl, ?_⟩
  have he : y4 ts ns rt rn = 6 := by
   unfold y4
   rw [if_neg (by simpa [jc5] using hc4), if_pos hc6]
  have hw : y7 m l ts ns hd rt rn = 6 := by rw [y7, if_neg (by simp [h0]), if_pos (by rw [he]; decide), he]
  rw [hw]
  exact ⟨fun _ => ⟨rfl, H.reidx [] (by decide) rfl⟩, fun h2 => absurd h2 (by decide)⟩
 have he0 : y4 ts ns rt rn = 0 := by
  unfold y4
  rw [if_neg (by simpa [jc5] using hc4), if_neg (by simpa using hc6)]
 obtain ⟨hrt, hrr, hrd, hrlen⟩ := jbX he0
 obtain ⟨q, rfl⟩ := Int.eq_ofNat_of_zero_le hrt.1
 have hq : q < ts.length := by omega
 have hgt : ts.getD (q : Int).toNat default = ts[q] := by simp [hq]
 obtain ⟨bt, ot, rfl, htc⟩ := ht q hq
 have htr := hN.tr ts[q] (List.getElem_mem hq)
 rw [hgt]
 have hw : y7 m l ts ns hd q rn = if goE (jac m l) ts[q].cap hd ns rn (y3 ts[q]) ≠ 0 then goE (jac m l) ts[q].cap hd ns rn (y3 ts[q]) else jce (jac m l (goT (jac m l) hd ns rn (y3 ts[q])).at_ ts[q].depot.toNat) hd ts[q] (goT (jac m l) hd ns rn (y3 ts[q])) := by
  rw [y7, if_neg (by simp [h0]), if_neg (by simp [he0])]
  unfold jg8
  rw [hgt]
 have hwT : jef m l ts ns hd q rn = jf9 (jac m l (goT (jac m l) hd ns rn (y3 ts[q])).at_ ts[q].depot.toNat) hd ts[q] (goT (jac m l) hd ns rn (y3 ts[q])) := by
  unfold jef jg8
  rw [hgt]
 have hwV : jfm m l ts ns hd q rn = goV (jac m l) hd ns rn (y3 ts[q]) := by
  unfold jfm
  rw [hgt]
 rw [hw, hwT, hwV]
 clear hw hwT hwV
 obtain ⟨dv, hdv⟩ := Int.eq_ofNat_of_zero_le htr.1.1
 generalize htt : ts[q] = t at *
 refine Y.k<|Y.q<|WP.rtail 8 mixed (by kernel_rfl) H ?_
 clear H; intro w hbw8 H
 refine Y.W H 1 rfl<|Y.W H 0 rfl<|Y.U rfl ?_
 have htc' := k7 H htc
 refine Y.v (by (change Ev _ _ _ _ (Op.load 81 (Operand.tmp 41)) _; exact Ev.loadN (k5 t) (j6 rfl) (j4 rfl) rfl htc'))<|Y.O H 1 rfl<|Y.v (Ev.build (jjg rfl rfl))<|OPS.nil_s<|Y.bx (cA rfl) H ?_
 clear H; intro g45 w H
 refine Y.v (Ev.asP rfl)<|Y.z<|Y.q ?_
 have Hf := H
 replace H := H.drop (L' := [_, _]) Y.sc
 refine WP.rheldC [46, 47, 48, 49, 50, 51, 52, 53, 54, 55, 56, 57, 58, 59, 60, 61, 62] (fun _ w' => SH w0 [] w' [⟨g45, 83, y5 t (ja6 m A (some ⟨bt, ot, none⟩) C l.length ts.length ns.length ca cb cc hd) (y3 t)⟩, ⟨g3, 49, [I q, .slice R rn.length cr]⟩, ⟨g2, 28, [I m, .slice A l.length ca, .slice (some ⟨bt, ot, none⟩) ts.length cb, .slice C ns.length cc, I hd]⟩]) mixed H ?_ ?_
 ·clear H; intro w hbw9 H
  refine Y.t 0 H rfl rfl (fun w H => Ev.mvP rfl)<|Y.t 1 H rfl rfl (fun w H => Ev.mvP rfl)<|Y.t 2 H rfl rfl (fun w H => Ev.mvP rfl)<|Y.t 3 H rfl rfl (fun w H => Ev.nilCheckP rfl)<|Y.tf 4 H rfl<|Y.tf 5 H rfl<|Y.t 7 H rfl rfl (fun w H => Ev.mvP rfl)<|Y.t 8 H rfl rfl (fun w H => Ev.nilCheckP rfl)<|Y.tf 9 H rfl<|Y.tf 10 H rfl<|Y.tf 11 H rfl ?_
  refine Y.A2 6 12 rfl rfl rfl ?_ ?_
  ·try replace Hf := Hf.toBelow hbw9
   refine Y.v (Y.l Hf 0 rfl rfl rfl)<|Y.z <| ⟨(H), ?_⟩
   refine Y.A1 12 rfl rfl ?_
   try replace Hf := Hf.toBelow hbw9
   refine Y.v (Y.l Hf 0 rfl rfl rfl)<|Y.z <| ⟨(H), ?_⟩
   refine Y.t 13 H rfl rfl (fun w H => Ev.nilCheckP rfl)<|Y.tf 14 H rfl<|Y.A1 15 rfl rfl ?_
   try replace Hf := Hf.toBelow hbw9
   refine Y.st 0 Hf rfl (cI rfl) rfl ?_
   clear H Hf; intro w Hf
   simp only [List.set_cons_zero, List.set_cons_succ, jam, Nat.zero_add] at Hf
   have H := Hf.drop (L' := [_, _]) Y.sc
   refine Y.z <| ⟨(H), ?_⟩
   refine Y.t 16 H rfl rfl (fun w H => Ev.nilCheckP rfl)<|Y.tf 17 H rfl<|Y.A1 18 rfl rfl ?_
   try replace Hf := Hf.toBelow hbw9
   refine Y.st 0 Hf rfl (cI rfl) rfl ?_
   clear H Hf; intro w Hf
   simp only [List.set_cons_zero, List.set_cons_succ, jam, Nat.zero_add] at Hf
   have H := Hf.drop (L' := [_, _]) Y.sc
   refine Y.z <| ⟨(H), ?_⟩
   refine Y.dn ?_
   exact ⟨Y.ag, (by rw [hdv] at Hf; unfold y3 y5 k5; rw [hdv, Int.toNat_natCast]; exact Hf)⟩
  ·try replace Hf := Hf.toBelow hbw9
   refine Y.v (Y.l Hf 0 rfl rfl rfl)<|Y.z <| ⟨(H), ?_⟩
   refine Y.A1 6 rfl rfl ?_
   try replace Hf := Hf.toBelow hbw9
   refine Y.v (Y.l Hf 0 rfl rfl rfl)<|Y.z <| ⟨(H), ?_⟩
   refine Y.t 13 H rfl rfl (fun w H => Ev.nilCheckP rfl)<|Y.tf 14 H rfl<|Y.A1 15 rfl rfl ?_
   try replace Hf := Hf.toBelow hbw9
   refine Y.st 0 Hf rfl (cI rfl) rfl ?_
   clear H Hf; intro w Hf
   simp only [List.set_cons_zero, List.set_cons_succ, jam, Nat.zero_add] at Hf
   have H := Hf.drop (L' := [_, _]) Y.sc
   refine Y.z <| ⟨(H), ?_⟩
   refine Y.t 16 H rfl rfl (fun w H => Ev.nilCheckP rfl)<|Y.tf 17 H rfl<|Y.A1 18 rfl rfl ?_
   try replace Hf := Hf.toBelow hbw9
   refine Y.st 0 Hf rfl (cI rfl) rfl ?_
   clear H Hf; intro w Hf
   simp only [List.set_cons_zero, List.set_cons_succ, jam, Nat.zero_add] at Hf
   have H := Hf.drop (L' := [_, _]) Y.sc
   refine Y.z <| ⟨(H), ?_⟩
   refine Y.dn ?_
   exact ⟨Y.ag, (by rw [hdv] at Hf; unfold y3 y5 k5; rw [hdv, Int.toNat_natCast]; exact Hf)⟩
 clear H
 rintro u w H
 refine Y.qr<|Y.aS rfl<|Y.z<|Y.qq<|Y.W H 1 rfl<|Y.E rfl<|Y.a rfl<|Y.z<|WP.block<|WP.loop [4, 5, 6, 9, 11, 12, 13, 66, 67, 68, 69, 70, 71, 72, 73, 74, 75, 76, 77, 78, 79, 80, 81, 82, 83] (fun k e w' => ∃ (j : Nat) (s : TS) (V : Option Addr) (cv : Nat) (Lo : List Blk), j + k = rn.length ∧ e 66 = I j ∧ e 9 = .slice V j cv ∧ OwnS V cv j ((goV (jac m l) hd ns (rn.take j) (y3 t)).flatMap jbb) 127 4 Lo ∧ goT (jac m l) hd ns (rn.take j) (y3 t) = s ∧ goE (jac m l) t.cap hd ns (rn.take j) (y3 t) = 0 ∧ jkO m t.cap j s ∧ SH w0 [] w' ([⟨g45, 83, y5 t (ja6 m A (some ⟨bt, ot, none⟩) C l.length ts.length ns.length ca cb cc hd) (s)⟩, ⟨g3, 49, [I q, .slice R rn.length cr]⟩, ⟨g2, 28, [I m, .slice A l.length ca, .slice (some ⟨bt, ot, none⟩) ts.length cb, .slice C ns.length cc, I hd]⟩] ++ Lo)) (rn.length) (⟨0, y3 t, none, 0, [], by omega, rfl, rfl, OwnS.nil, rfl, rfl, jkO.start htr, by simpa using H⟩) ?_
 clear H
 rintro k u w ⟨j, s, V, cv, Lo, hk, h66, h9, hO, hgT, hgE, hS, H⟩
 refine WP.know (t := 66) h66 (WP.know (t := 9) h9 ?_)
 have hg45 : w0.heap.size ≤ g45 := by
  rcases H.may ⟨g45, 83, y5 t (ja6 m A (some ⟨bt, ot, none⟩) C l.length ts.length ns.length ca cb cc hd) (s)⟩ (by simp) with h | h
  ·exact h
  ·cases h
 have hA : l ≠ [] → Off A [g45] := hz.off (fun x => by simp [jah]) (fun g hg => by simp at hg; subst hg; exact hg45)
 have hC : ns ≠ [] → Off C [g45] := hn.off (fun x => by simp [j8]) (fun g hg => by simp at hg; subst hg; exact hg45)
 have hjn : j ≤ 16 := by omega
 have hSn := hS.now
 have hSd := hS.driven
 have hSl := hS.load
 have htc2 := htr.2.1
 refine Y.qr<|Y.lt rfl<|Y.z<|Y.q ?_
 refine WP.cond rfl (fun hc12 => ?_) (fun hc12 => ?_)
 ·have hlt : j < rn.length := by simp at hc12; omega
  obtain ⟨hi0, hi1⟩ := hrr rn[j] (List.getElem_mem hlt)
  obtain ⟨ni, hni⟩ := Int.eq_ofNat_of_zero_le hi0
  have hnl2 : ni < ns.length := by omega
  have hnx := hN.nd ns[ni] (List.getElem_mem hnl2)
  obtain ⟨br, orr, rfl, hx⟩ := hr j hlt
  rw [hni] at hx
  have hna : jaw ns rn[j] = ns[ni] := by rw [hni]; simp [jaw, hnl2]
  have hgD : goD (jac m l) ns rn[j] s = x9 m l s.at_ ns[ni].node.toNat := by unfold goD jac; rw [hna]; simp
  have htk : rn.take (j + 1) = rn.take j ++ [rn[j]] := List.take_succ_eq_append_getElem hlt
  have hE1 : goE (jac m l) t.cap hd ns (rn.take (j + 1)) (y3 t) = jat (x9 m l s.at_ ns[ni].node.toNat) t.cap ns[ni] s := by
   rw [htk, jed, hgE, hgT]
   simp only [goE, hgD, hna]
   by_cases h : jat (x9 m l s.at_ ns[ni].node.toNat) t.cap ns[ni] s = 0 <;> simp [h]
  refine Y.k<|Y.q<|WP.block<|Y.qr<|Y.I rfl<|Y.v (Y.c (H.ld0 (by assumption)) rfl) ?_
  refine Y.bz rfl<|Y.q ?_
  replace H := H.perm rot3
  refine Y.r<|Y.D rfl<|Y.a rfl<|Y.c2 73 rfl (jku g45 m ni A (some ⟨bt, ot, none⟩) C l ns ts.length ca cb cc hd t s w [g45] hN.road hS.at_ (by omega) hnl2 (by omega) hh (hz.sh H) hA (hn.sh H) hC (H.restart (Lv := [_]) Y.sr) rfl) ?_
  rintro _ w ⟨rfl, hg, Lx, Hx⟩
  refine ⟨_, rfl, ?_⟩
  obtain ⟨L', hL', HL⟩ : ∃ L' : List Blk, (jat (x9 m l s.at_ ns[ni].node.toNat) t.cap ns[ni] s = 0 → L' = [⟨g45, 83, y5 t (ja6 m A (some ⟨bt, ot, none⟩) C l.length ts.length ns.length ca cb cc hd) (jbP (x9 m l s.at_ ns[ni].node.toNat) hd ns[ni] s)⟩]) ∧ SH _ [g45] w L' := by
   by_cases h : jat (x9 m l s.at_ ns[ni].node.toNat) t.cap ns[ni] s = 0
   ·exact ⟨_, fun _ => rfl, hg h⟩
   ·exact ⟨Lx, fun h2 => absurd h2 h, Hx⟩
  replace H := SH.call (L1 := [_, _] ++ Lo) (Lv := [_]) H HL
  clear hg Hx HL
  refine Y.T rfl<|Y.G rfl<|Y.G rfl<|Y.al H rfl rfl ?_
  clear H; intro g12 w H
  refine Y.ss 0 H rfl (cA rfl) rfl ?_
  clear H; intro w H
  refine Y.bz rfl<|Y.qq<|Y.a rfl<|Y.V rfl<|Y.z ?_
  refine WP.cond rfl (fun hc15 => ?_) (fun hc15 => ?_)
  ·have hv : jat (x9 m l s.at_ ns[ni].node.toNat) t.cap ns[ni] s ≠ 0 := by simpa using hc15
   have hEn : goE (jac m l) t.cap hd ns rn (y3 t) = jat (x9 m l s.at_ ns[ni].node.toNat) t.cap ns[ni] s := by
    have h := jed (jac m l) t.cap hd ns (rn.take (j + 1)) (rn.drop (j + 1)) (y3 t)
    rw [List.take_append_drop, hE1, if_pos hv] at h; exact h
   refine Y.qr<|Y.a rfl<|Y.v (Ev.asP rfl)<|Y.aS rfl<|Y.bz rfl ?_
   refine WP.ret ⟨_, rfl, ?_⟩
   rw [hEn, if_pos hv]
   exact ⟨fun _ => ⟨rfl, H.reidx [] (by decide) rfl⟩, fun h2 => absurd h2 hv⟩
  have hv : jat (x9 m l s.at_ ns[ni].node.toNat) t.cap ns[ni] s = 0 := by simpa using hc15
  rw [hL' hv, if_pos hv] at H
  replace H := H.perm rot4
  have hS1 := hS.step hN.road hnx hh hv
  refine Y.k<|Y.r<|Y.sS rfl<|Y.O H 0 rfl<|OPS.buildSlice rfl rfl rfl rfl (jfT rfl) H ?_
  clear H; intro g81 w H
  refine OPS.append (m := 1) (news := jbb (jdw (x9 m l s.at_ ns[ni].node.toNat) hd ni ns[ni] s)) (R := [⟨g81, 127, jbb (jdw (x9 m l s.at_ ns[ni].node.toNat) hd ni ns[ni] s)⟩, ⟨g12, 127, jbb (jdw (x9 m l s.at_ ns[ni].node.toNat) hd ni ns[ni] s)⟩, ⟨g45, 83, y5 t (ja6 m A (some ⟨bt, ot, none⟩) C l.length ts.length ns.length ca cb cc hd) (jbP (x9 m l s.at_ ns[ni].node.toNat) hd ns[ni] s)⟩, ⟨g3, 49, [I q, .slice (some ⟨br, orr, none⟩) rn.length cr]⟩, ⟨g2, 28, [I m, .slice A l.length ca, .slice (some ⟨bt, ot, none⟩) ts.length cb, .slice C ns.length cc, I hd]⟩]) rfl rfl rfl rfl rfl (z8 rfl) rfl rfl hO rfl (y0 H 0 rfl) rfl (by omega) (by unfold maxLen; omega) H (List.Perm.refl _) ?_
  clear H hO; intro V cv Lo w hO H
  refine Y.aS rfl<|Y.z<|Y.r<|Y.P rfl<|Y.a rfl<|Y.z ?_
  have hT1 : goT (jac m l) hd ns (rn.take (j + 1)) (y3 t) = jbP (x9 m l s.at_ ns[ni].node.toNat) hd ns[ni] s := by rw [htk, jf7, hgT]; simp only [goT, hgD, hna]
  have hV1 : goV (jac m l) hd ns (rn.take (j + 1)) (y3 t) = goV (jac m l) hd ns (rn.take j) (y3 t) ++ [jdw (x9 m l s.at_ ns[ni].node.toNat) hd ni ns[ni] s] := by rw [htk, jhp, hgT]; (simp only [goV, hgD, hna]; rw [hni])
  exact ⟨Y.ag, k - 1, by omega, j + 1, jbP (x9 m l s.at_ ns[ni].node.toNat) hd ns[ni] s, V, cv, Lo, by omega, rfl, rfl, (by rw [hV1, List.flatMap_append]; simpa using hO), hT1, (by rw [hE1]; exact hv), hS1, H.drop (((List.Sublist.refl _).cons _).cons _)⟩
 have hj : j = rn.length := by simp at hc12; omega
 subst hj
 rw [List.take_length] at hgT hgE hO
 rw [hgE, if_neg (by simp), hgT, show jac m l s.at_ t.depot.toNat = x9 m l s.at_ t.depot.toNat from by unfold jac; simp]
 replace H := H.perm rot3
 refine WP.exit<|XB.hit<|Y.qq<|Y.D rfl<|Y.c2 85 rfl (jmE g45 m A (some ⟨bt, ot, none⟩) C l ts.length ns.length ca cb cc hd t s w hN.road hS.at_ (by omega) htr.1 hh (hz.sh H) hA (H.restart (Lv := [_]) Y.sr)) ?_
 rintro _ w ⟨rfl, hg, Lx, Hx⟩
 refine ⟨_, rfl, ?_⟩
 obtain ⟨L', hL', HL⟩ : ∃ L' : List Blk, (jce (x9 m l s.at_ t.depot.toNat) hd t s = 0 → L' = [⟨g45, 83, y5 t (ja6 m A (some ⟨bt, ot, none⟩) C l.length ts.length ns.length ca cb cc hd) (jf9 (x9 m l s.at_ t.depot.toNat) hd t s)⟩]) ∧ SH _ [g45] w L' := by
  by_cases h : jce (x9 m l s.at_ t.depot.toNat) hd t s = 0
  ·exact ⟨_, fun _ => rfl, hg h⟩
  ·exact ⟨Lx, fun h2 => absurd h2 h, Hx⟩
 replace H := SH.call (L1 := [_, _] ++ Lo) (Lv := [_]) H HL
 clear hg Hx HL
 refine Y.bz rfl<|Y.qr<|Y.a rfl<|Y.V rfl<|Y.z ?_
 refine WP.cond rfl (fun hc20 => ?_) (fun hc20 => ?_)
 ·refine Y.qr<|Y.a rfl<|Y.v (Ev.asP rfl)<|Y.aS rfl<|Y.bz rfl ?_
  refine WP.ret ⟨_, rfl, ?_⟩
  have hv : jce (x9 m l s.at_ t.depot.toNat) hd t s ≠ 0 := by simpa using hc20
  exact ⟨fun _ => ⟨rfl, H.reidx [] (by decide) rfl⟩, fun h2 => absurd h2 hv⟩
 refine Y.k<|Y.qr<|Y.D rfl<|Y.sS rfl<|Y.v (Ev.asP rfl)<|Y.aS rfl<|Y.bz rfl ?_
 refine WP.ret ⟨_, rfl, ?_⟩
 have hv : jce (x9 m l s.at_ t.depot.toNat) hd t s = 0 := by simpa using hc20
 rw [hL' hv] at H
 have H2 := (H.perm rot3.symm)
 exact ⟨fun h2 => absurd hv h2, fun _ => ⟨g45, m, V, cv, Lo, rfl, rfl, hO, H2.drop (List.Sublist.cons_cons _ (((List.Sublist.refl _).cons _).cons _))⟩⟩
end Go.Proofs.YtgcokllbophkkaaGreat
namespace Go.Proofs.YtgcokllbophkkaaGreat
open Go Go.W Go.RowKit
noncomputable def jgf (n : Int) (l : List Edg) (ts : List q9) (ns : List z6) (hd rt : Int) (rn : List Int) : List Vis := if y7 n l ts ns hd rt rn = 0 then jfm n l ts ns hd rt rn else []
noncomputable def jeQ (n : Int) (l : List Edg) (ts : List q9) (ns : List z6) (hd rt : Int) (rn : List Int) : Int := if y7 n l ts ns hd rt rn = 0 then (jef n l ts ns hd rt rn).now else 0
noncomputable def jf3 (n : Int) (l : List Edg) (ts : List q9) (ns : List z6) (hd rt : Int) (rn : List Int) : Int := if y7 n l ts ns hd rt rn = 0 then (jef n l ts ns hd rt rn).driven else 0
theorem jjG (n : Int) (l : List Edg) (ts : List q9) (ns : List z6) (hd rt : Int) (rn : List Int) : (jfm n l ts ns hd rt rn).length = rn.length := by unfold jfm; rw [jhI]
theorem jfC (n hd rt : Int) (A B C R : Option Addr) (l : List Edg) (ts : List q9) (ns : List z6) (rn : List Int) (ca cb cc cr : Nat) (w0 : World) (hz : ja3 w0 A l) (ht : k8 4 k5 w0 B ts) (hn : k8 2 j8 w0 C ns) (hcc : ns.length ≤ cc) (hr : k9 w0 R rn) (hrl : rn.length ≤ maxLen) (hrc : rn.length ≤ cr) (hE : y7 n l ts ns hd rt rn = 0) :
  Calls Tryz.prog 41 #[.agg #[I n, .slice A l.length ca, .slice B ts.length cb, .slice C ns.length cc, I hd], .agg #[I rt, .slice R rn.length cr]] w0 fun e w' => ∃ (g m : Nat) (V : Option Addr) (cv : Nat) (Lv : List Blk), n = m ∧ e = .returned (.tuple #[.pointer (some ⟨g, 0, none⟩), .slice V rn.length cv, I 0]) ∧ OwnS V cv rn.length ((jfm n l ts ns hd rt rn).flatMap jbb) 127 4 Lv ∧
    SH w0 [] w' ([⟨g, 83, y5 (ts.getD rt.toNat default) (ja6 m A B C l.length ts.length ns.length ca cb cc hd) (jef n l ts ns hd rt rn)⟩] ++ Lv) :=
 Calls.mono (jfi n hd rt A B C R l ts ns rn ca cb cc cr w0 hz ht hn hcc hr hrl hrc) fun _ _ h => h.2 hE
theorem jfz (n hd rt : Int) (A B C R : Option Addr) (l : List Edg) (ts : List q9) (ns : List z6) (rn : List Int) (ca cb cc cr : Nat) (w0 : World) (hz : ja3 w0 A l) (ht : k8 4 k5 w0 B ts) (hn : k8 2 j8 w0 C ns) (hcc : ns.length ≤ cc) (hr : k9 w0 R rn) (hrl : rn.length ≤ maxLen) (hrc : rn.length ≤ cr) (hE : y7 n l ts ns hd rt rn ≠ 0) :
  Calls Tryz.prog 41 #[.agg #[I n, .slice A l.length ca, .slice B ts.length cb, .slice C ns.length cc, I hd], .agg #[I rt, .slice R rn.length cr]] w0 fun e w' => e = .returned (.tuple #[.pointer none, .slice none 0 0, I (y7 n l ts ns hd rt rn)]) ∧ SH w0 [] w' [] :=
 Calls.mono (jfi n hd rt A B C R l ts ns rn ca cb cc cr w0 hz ht hn hcc hr hrl hrc) fun _ _ h => h.1 hE
theorem jiM (n hd rt : Int) (A B C R : Option Addr) (l : List Edg) (ts : List q9) (ns : List z6) (rn : List Int) (ca cb cc cr : Nat) (w0 : World) (hz : ja3 w0 A l) (ht : k8 4 k5 w0 B ts) (hn : k8 2 j8 w0 C ns) (hcc : ns.length ≤ cc) (hr : k9 w0 R rn) (hrl : rn.length ≤ maxLen) (hrc : rn.length ≤ cr) :
  Calls Tryz.prog 23 #[.agg #[I n, .slice A l.length ca, .slice B ts.length cb, .slice C ns.length cc, I hd], .agg #[I rt, .slice R rn.length cr]] w0 fun e w' =>
   ∃ (V : Option Addr) (cv : Nat) (Lv : List Blk), e = .returned (.tuple #[.slice V (jgf n l ts ns hd rt rn).length cv, I (jeQ n l ts ns hd rt rn), I (y7 n l ts ns hd rt rn)]) ∧ OwnS V cv (jgf n l ts ns hd rt rn).length ((jgf n l ts ns hd rt rn).flatMap jbb) 127 4 Lv ∧ SH w0 [] w' Lv := by
 have H := SH.refl w0
 by_cases hE : y7 n l ts ns hd rt rn = 0
 ·have e1 : jgf n l ts ns hd rt rn = jfm n l ts ns hd rt rn := if_pos hE
  have e2 : jeQ n l ts ns hd rt rn = (jef n l ts ns hd rt rn).now := if_pos hE
  rw [e1, e2, jjG]
  refine Calls.ofWP Tryz.func23 rfl Tryz.results23 Tryz.ntmps23 rfl<|Y.qr<|Y.bx (cA rfl) H ?_
  clear H; intro g2 w H
  refine Y.bx (cA rfl) H ?_
  clear H; intro g3 w H
  refine Y.aS rfl<|Y.b rfl<|Y.bz rfl<|Y.qr<|Y.O H 1 rfl<|Y.O H 0 rfl<|Y.c2 13 rfl (jfC n hd rt A B C R l ts ns rn ca cb cc cr w (hz.sh H) (ht.sh H) (hn.sh H) hcc (hr.sh H) hrl hrc hE) ?_
  rintro _ w ⟨g, m, V, cv, Lv, rfl, rfl, hO, Hc⟩
  refine ⟨_, rfl, ?_⟩
  replace H := SH.call (L1 := [_, _]) (Lv := []) H Hc
  clear Hc
  rw [hE]
  unfold y5 k5 ja6 at H
  simp only [List.cons_append, List.nil_append] at H
  refine Y.T rfl<|Y.G rfl<|Y.G rfl<|Y.G rfl<|Y.v (Ev.asP rfl)<|Y.aS rfl<|Y.bz rfl<|Y.qq<|Y.a rfl<|Y.V rfl<|Y.z ?_
  refine WP.cond rfl (fun hc2 => ?_) (fun hc2 => ?_)
  ·refine Y.qr<|Y.a rfl<|Y.aS rfl<|Y.b rfl<|Y.bz rfl ?_
   refine WP.ret ⟨_, rfl, ?_⟩
   exact absurd hc2 (by decide)
  refine Y.k<|Y.q<|WP.rstill mixed (by kernel_rfl) H ?_
  clear H; intro w hbw4 H
  refine Y.sS rfl<|Y.D rfl<|Y.C rfl<|Y.W H 2 rfl<|Y.aS rfl<|Y.b rfl<|Y.b rfl<|OPS.nil_s ?_
  refine WP.ret ⟨_, rfl, ?_⟩
  exact ⟨V, cv, Lv, rfl, hO, H.drop ((((List.Sublist.refl _).cons _).cons _).cons _)⟩
 ·have e1 : jgf n l ts ns hd rt rn = [] := if_neg hE
  have e2 : jeQ n l ts ns hd rt rn = 0 := if_neg hE
  rw [e1, e2]
  refine Calls.ofWP Tryz.func23 rfl Tryz.results23 Tryz.ntmps23 rfl<|Y.qr<|Y.bx (cA rfl) H ?_
  clear H; intro g2 w H
  refine Y.bx (cA rfl) H ?_
  clear H; intro g3 w H
  refine Y.aS rfl<|Y.b rfl<|Y.bz rfl<|Y.qr<|Y.O H 1 rfl<|Y.O H 0 rfl<|Y.c2 13 rfl (jfz n hd rt A B C R l ts ns rn ca cb cc cr w (hz.sh H) (ht.sh H) (hn.sh H) hcc (hr.sh H) hrl hrc hE) ?_
  rintro _ w ⟨rfl, Hc⟩
  refine ⟨_, rfl, ?_⟩
  replace H := SH.call (L1 := [_, _]) (Lv := []) H Hc
  clear Hc
  refine Y.T rfl<|Y.G rfl<|Y.G rfl<|Y.G rfl<|Y.v (Ev.asP rfl)<|Y.aS rfl<|Y.bz rfl<|Y.qq<|Y.a rfl<|Y.V rfl<|Y.z ?_
  refine WP.cond rfl (fun hc2 => ?_) (fun hc2 => ?_)
  ·refine Y.qr<|Y.a rfl<|Y.aS rfl<|Y.b rfl<|Y.bz rfl ?_
   refine WP.ret ⟨_, rfl, ?_⟩
   exact ⟨none, 0, [], rfl, OwnS.nil, H.reidx [] (by decide) rfl⟩
  refine Y.k<|Y.q ?_
  exact absurd hc2 (by simp [hE])
theorem jeE (n hd rt : Int) (A B C R : Option Addr) (l : List Edg) (ts : List q9) (ns : List z6) (rn : List Int) (ca cb cc cr : Nat) (w0 : World) (hz : ja3 w0 A l) (ht : k8 4 k5 w0 B ts) (hn : k8 2 j8 w0 C ns) (hcc : ns.length ≤ cc) (hr : k9 w0 R rn) (hrl : rn.length ≤ maxLen) (hrc : rn.length ≤ cr) :
  Calls Tryz.prog 36 #[.agg #[I n, .slice A l.length ca, .slice B ts.length cb, .slice C ns.length cc, I hd], .agg #[I rt, .slice R rn.length cr]] w0 fun e w' =>
   e = .returned (.tuple #[I (jf3 n l ts ns hd rt rn), I (y7 n l ts ns hd rt rn)]) ∧ Below w0.heap.size w0 w' := by
 have H := SH.refl w0
 by_cases hE : y7 n l ts ns hd rt rn = 0
 ·have e1 : jf3 n l ts ns hd rt rn = (jef n l ts ns hd rt rn).driven := if_pos hE
  rw [e1]
  refine Calls.ofWP Tryz.func36 rfl Tryz.results36 Tryz.ntmps36 rfl<|Y.qr<|Y.bx (cA rfl) H ?_
  clear H; intro g2 w H
  refine Y.bx (cA rfl) H ?_
  clear H; intro g3 w H
  refine Y.b rfl<|Y.bz rfl<|Y.qr<|Y.O H 1 rfl<|Y.O H 0 rfl<|Y.c2 12 rfl (jfC n hd rt A B C R l ts ns rn ca cb cc cr w (hz.sh H) (ht.sh H) (hn.sh H) hcc (hr.sh H) hrl hrc hE) ?_
  rintro _ w ⟨g, m, V, cv, Lv, rfl, rfl, hO, Hc⟩
  refine ⟨_, rfl, ?_⟩
  replace H := SH.call (L1 := [_, _]) (Lv := []) H Hc
  clear Hc
  rw [hE]
  unfold y5 k5 ja6 at H
  simp only [List.cons_append, List.nil_append] at H
  refine Y.T rfl<|Y.G rfl<|Y.G rfl<|Y.G rfl<|Y.v (Ev.asP rfl)<|Y.aS rfl<|Y.bz rfl<|Y.qq<|Y.a rfl<|Y.V rfl<|Y.z ?_
  refine WP.cond rfl (fun hc2 => ?_) (fun hc2 => ?_)
  ·refine Y.qr<|Y.a rfl<|Y.b rfl<|Y.bz rfl ?_
   refine WP.ret ⟨_, rfl, ?_⟩
   exact absurd hc2 (by decide)
  refine Y.k<|Y.qr<|Y.D rfl<|Y.C rfl<|Y.W H 2 rfl<|Y.b rfl<|Y.bz rfl ?_
  refine WP.ret ⟨_, rfl, ?_⟩
  exact ⟨rfl, H.below⟩
 ·have e1 : jf3 n l ts ns hd rt rn = 0 := if_neg hE
  rw [e1]
  refine Calls.ofWP Tryz.func36 rfl Tryz.results36 Tryz.ntmps36 rfl<|Y.qr<|Y.bx (cA rfl) H ?_
  clear H; intro g2 w H
  refine Y.bx (cA rfl) H ?_
  clear H; intro g3 w H
  refine Y.b rfl<|Y.bz rfl<|Y.qr<|Y.O H 1 rfl<|Y.O H 0 rfl<|Y.c2 12 rfl (jfz n hd rt A B C R l ts ns rn ca cb cc cr w (hz.sh H) (ht.sh H) (hn.sh H) hcc (hr.sh H) hrl hrc hE) ?_
  rintro _ w ⟨rfl, Hc⟩
  refine ⟨_, rfl, ?_⟩
  replace H := SH.call (L1 := [_, _]) (Lv := []) H Hc
  clear Hc
  refine Y.T rfl<|Y.G rfl<|Y.G rfl<|Y.G rfl<|Y.v (Ev.asP rfl)<|Y.aS rfl<|Y.bz rfl<|Y.qq<|Y.a rfl<|Y.V rfl<|Y.z ?_
  refine WP.cond rfl (fun hc2 => ?_) (fun hc2 => ?_)
  ·refine Y.qr<|Y.a rfl<|Y.b rfl<|Y.bz rfl ?_
   refine WP.ret ⟨_, rfl, ?_⟩
   exact ⟨rfl, H.below⟩
  refine Y.k<|Y.q ?_
  exact absurd hc2 (by simp [hE])
end Go.Proofs.YtgcokllbophkkaaGreat
namespace Go.Proofs.YtgcokllbophkkaaGreat
open Go Go.W Go.RowKit
def jbk (n : Int) (t : q9) : Int := if jbc n t = true then 7 else if jaK t = true then 1 else 0
def jbK (n : Int) (x : z6) : Int := if jbv n x = true then 7 else if jaY x = true then 1 else 0
theorem jmw (n hd : Int) (A B C : Option Addr) (ll tl nl ca cb cc : Nat) (t : q9) (w0 : World) :
  Calls Tryz.prog 54 #[.agg #[I n, .slice A ll ca, .slice B tl cb, .slice C nl cc, I hd], .agg #[I t.depot, I t.cap, I t.from_, I t.to_]] w0 fun e w' => e = .returned (I (jbk n t)) ∧ Below w0.heap.size w0 w' := by
 have H := SH.refl w0
 refine Calls.ofWP Tryz.func54 rfl Tryz.results54 Tryz.ntmps54 rfl<|Y.qr<|Y.bx (cA rfl) H ?_
 clear H; intro g2 w H
 refine Y.bx (cA rfl) H ?_
 clear H; intro g3 w H
 refine Y.bz rfl<|Y.qq<|Y.F rfl<|Y.v (Ev.loadN [_, _] (j6 rfl) (j4 rfl) rfl ⟨H.ldL 1 rfl _ rfl, H.ldL 1 rfl _ rfl, trivial⟩)<|Y.W H 0 rfl<|Y.cl 9 rfl (jgM n t.depot _ _ _ _) H ?_
 clear H; intro w H
 refine Y.v (Ev.not rfl)<|Y.z ?_
 refine WP.cond rfl (fun hc1 => ?_) (fun hc1 => ?_)
 ·refine Y.qr<|Y.bz rfl ?_
  refine WP.ret ⟨_, rfl, ?_⟩
  have h : jbc n t = true := by
   simp [jaV] at hc1
   simp [jbc, inB]
   omega
  exact ⟨by rw [jbk, if_pos h]; rfl, H.below⟩
 have h : jbc n t = false := by
  simp [jaV] at hc1
  simp [jbc, inB]
  omega
 refine Y.k<|Y.qq<|Y.W H 0 rfl<|Y.lt rfl<|Y.B rfl<|Y.gf rfl<|Y.yy H 0 rfl<|Y.g rfl rfl (fun hg => Ev.gtr (gvE hg rfl) rfl)<|Y.po rfl<|Y.B rfl<|Y.gf rfl<|Y.g rfl rfl (fun hg => Ev.fieldAddr (jaf rfl) (gvE hg rfl))<|Y.yy H 0 rfl<|Y.g rfl rfl (fun hg => Ev.lss (gvE hg rfl) rfl)<|Y.po rfl<|Y.B rfl<|Y.gf rfl<|Y.g rfl rfl (fun hg => Ev.fieldAddr (jaf rfl) (gvE hg rfl))<|Y.yy H 0 rfl<|Y.gf rfl<|Y.g rfl rfl (fun hg => Ev.fieldAddr (jaf rfl) (gvE hg rfl))<|Y.yy H 0 rfl<|Y.g rfl rfl (fun hg => Ev.lss (gvE hg rfl) (gvE hg rfl))<|Y.po rfl<|Y.B rfl<|Y.gf rfl<|Y.g rfl rfl (fun hg => Ev.fieldAddr (jaf rfl) (gvE hg rfl))<|Y.yy H 0 rfl<|Y.g rfl rfl (fun hg => Ev.gtr (gvE hg rfl) rfl)<|Y.po rfl<|Y.z ?_
 refine WP.cond rfl (fun hc3 => ?_) (fun hc3 => ?_)
 ·refine Y.qr<|Y.bz rfl ?_
  refine WP.ret ⟨_, rfl, ?_⟩
  have h2 : jaK t = true := by
   simp at hc3
   simp [jaK, inB]
   omega
  exact ⟨by rw [jbk, if_neg (by simp [h]), if_pos h2]; rfl, H.below⟩
 refine Y.k<|Y.qr<|Y.bz rfl ?_
 refine WP.ret ⟨_, rfl, ?_⟩
 have h2 : jaK t = false := by
  simp at hc3
  simp [jaK, inB]
  omega
 exact ⟨by rw [jbk, if_neg (by simp [h]), if_neg (by simp [h2])]; rfl, H.below⟩
theorem r42Need (n hd : Int) (A B C : Option Addr) (ll tl nl ca cb cc : Nat) (x : z6) (w0 : World) :
  Calls Tryz.prog 55 #[.agg #[I n, .slice A ll ca, .slice B tl cb, .slice C nl cc, I hd], .agg #[I x.node, I x.move]] w0 fun e w' => e = .returned (I (jbK n x)) ∧ Below w0.heap.size w0 w' := by
 have H := SH.refl w0
 refine Calls.ofWP Tryz.func55 rfl Tryz.results55 Tryz.ntmps55 rfl<|Y.qr<|Y.bx (cA rfl) H ?_
 clear H; intro g2 w H
 refine Y.bx (cA rfl) H ?_
 clear H; intro g3 w H
 refine Y.bz rfl<|Y.qq<|Y.F rfl<|Y.v (Ev.loadN [_, _] (j6 rfl) (j4 rfl) rfl ⟨H.ldL 1 rfl _ rfl, H.ldL 1 rfl _ rfl, trivial⟩)<|Y.W H 0 rfl<|Y.cl 9 rfl (jgM n x.node _ _ _ _) H ?_
 clear H; intro w H
 refine Y.v (Ev.not rfl)<|Y.z ?_
 refine WP.cond rfl (fun hc1 => ?_) (fun hc1 => ?_)
 ·refine Y.qr<|Y.bz rfl ?_
  refine WP.ret ⟨_, rfl, ?_⟩
  have h : jbv n x = true := by
   simp [jaV] at hc1
   simp [jbv, inB]
   omega
  exact ⟨by rw [jbK, if_pos h]; rfl, H.below⟩
 have h : jbv n x = false := by
  simp [jaV] at hc1
  simp [jbv, inB]
  omega
 refine Y.k<|Y.qq<|Y.W H 0 rfl<|Y.v (Ev.eql rfl rfl)<|Y.B rfl<|Y.gf rfl<|Y.yy H 0 rfl<|Y.g rfl rfl (fun hg => Ev.lss (gvE hg rfl) rfl)<|Y.po rfl<|Y.B rfl<|Y.gf rfl<|Y.yy H 0 rfl<|Y.g rfl rfl (fun hg => Ev.gtr (gvE hg rfl) rfl)<|Y.po rfl<|Y.z ?_
 refine WP.cond rfl (fun hc3 => ?_) (fun hc3 => ?_)
 ·refine Y.qr<|Y.bz rfl ?_
  refine WP.ret ⟨_, rfl, ?_⟩
  have h2 : jaY x = true := by
   simp at hc3
   simp [jaY, inB]
   omega
  exact ⟨by rw [jbK, if_neg (by simp [h]), if_pos h2]; rfl, H.below⟩
 refine Y.k<|Y.qr<|Y.bz rfl ?_
 refine WP.ret ⟨_, rfl, ?_⟩
 have h2 : jaY x = false := by
  simp at hc3
  simp [jaY, inB]
  omega
 exact ⟨by rw [jbK, if_neg (by simp [h]), if_neg (by simp [h2])]; rfl, H.below⟩
theorem jfZ (A : Option Addr) (l : List Int) (cap : Nat) (w0 : World) (hz : k9 w0 A l) (hl : l.length ≤ maxLen) :
  Calls Tryz.prog 62 #[.slice A l.length cap] w0 fun e w' => e = .returned (.bool (jaA l)) ∧ Below w0.heap.size w0 w' := by
 have H := SH.refl w0
 have hl' : l.length ≤ 9223372036854775807 := by unfold maxLen at hl; omega
 refine Calls.ofWP Tryz.func62 rfl Tryz.results62 Tryz.ntmps62 rfl<|Y.qr<|Y.aB rfl<|Y.z<|Y.qq<|Y.bz rfl<|WP.block<|WP.loop [2, 3, 4, 5, 6, 7, 8, 9, 10, 11, 12, 13, 14, 15, 16, 17, 18, 19, 20, 21, 22, 23, 24] (fun k e w' => ∃ j : Nat, j + k = l.length ∧ e 3 = I j ∧ SH w0 [] w' [] ∧ (l.take j).Nodup) (l.length) (⟨0, by omega, rfl, H, by simp⟩) ?_
 clear H
 rintro k u w ⟨j, hk, h3, H, hall⟩
 refine WP.know (t := 3) h3<|Y.qq<|Y.a rfl<|Y.sS rfl<|Y.E rfl<|Y.lt rfl<|Y.z ?_
 refine WP.cond rfl (fun hc2 => ?_) (fun hc2 => ?_)
 ·have hlt : j < l.length := by simpa using hc2
  obtain ⟨b, o, rfl, hx⟩ := hz j hlt
  have hnt := jbB hlt
  refine Y.k<|Y.q<|WP.block<|Y.qr<|Y.bz rfl<|WP.block<|WP.loop [2, 4, 11, 12, 13, 14, 15, 16, 17, 18, 19, 20, 21, 22, 23, 24] (fun k2 e w' => ∃ i : Nat, i + k2 = j ∧ e 4 = I i ∧ SH w0 [] w' [] ∧ l[j] ∉ l.take i) (j) (⟨0, by omega, rfl, H, by simp⟩) ?_
  clear H
  rintro k2 u2 w ⟨i, hk2, h4, H, hno⟩
  refine WP.know (t := 4) h4<|Y.qq<|Y.a rfl<|Y.a rfl<|Y.lt rfl<|Y.z ?_
  refine WP.cond rfl (fun hc5 => ?_) (fun hc5 => ?_)
  ·have hij : i < j := by simpa using hc5
   have hil : i < l.length := by omega
   have hxi := hz.atK hil
   refine Y.k<|Y.q<|WP.block<|Y.q<|WP.rstill mixed (by kernel_rfl) H ?_
   clear H; intro w hbw7 H
   refine Y.sS rfl<|Y.a rfl<|Y.I rfl<|Y.v (Y.c (H.ld0 (by assumption)) rfl) ?_
   refine Y.sS rfl<|Y.a rfl<|Y.I rfl<|Y.v (Y.c (H.ld0 (by assumption)) rfl) ?_
   refine Y.v (Ev.eql rfl rfl)<|OPS.nil_s ?_
   refine WP.cond rfl (fun hc7 => ?_) (fun hc7 => ?_)
   ·refine Y.qr<|Y.aB rfl<|Y.z ?_
    refine WP.ret ⟨_, rfl, ?_⟩
    have he : l[i] = l[j] := by simpa using hc7
    have hm : l[j] ∈ l.take j := by rw [← he]; exact List.mem_take_iff_getElem.2 ⟨i, by omega, rfl⟩
    have : jaA l = true := by
     unfold jaA
     rw [Bool.not_eq_true', decide_eq_false_iff_not]
     exact fun h => (hnt.1 (jb4 h)).2 hm
    exact ⟨by rw [this]; rfl, H.below⟩
   refine Y.k<|Y.r<|Y.a rfl<|Y.P rfl<|Y.bz rfl ?_
   have he : ¬ l[i] = l[j] := by simpa using hc7
   refine ⟨Y.ag, k2 - 1, by omega, i + 1, by omega, rfl, H, ?_⟩
   rw [List.take_succ_eq_append_getElem hil]
   simp only [List.mem_append, List.mem_singleton, not_or]
   exact ⟨hno, fun h => he h.symm⟩
  refine WP.exit<|XB.hit<|Y.r<|Y.a rfl<|Y.P rfl<|Y.bz rfl ?_
  have hij : i = j := by simp at hc5; omega
  subst hij
  exact ⟨Y.ag, k - 1, by omega, i + 1, by omega, rfl, H, hnt.2 ⟨hall, hno⟩⟩
 refine WP.exit<|XB.hit<|Y.qr<|Y.aB rfl<|Y.z ?_
 refine WP.ret ⟨_, rfl, ?_⟩
 have hj : j = l.length := by simp at hc2; omega
 rw [hj, List.take_length] at hall
 exact ⟨by simp only [jaA, hall, decide_true]; rfl, H.below⟩
end Go.Proofs.YtgcokllbophkkaaGreat
namespace Go.Proofs.YtgcokllbophkkaaGreat
open Go Go.W Go.RowKit
theorem jhi {n : Int} {t : q9} (h : jbk n t = 0) : jbc n t = false ∧ jaK t = false := by
 unfold jbk at h
 split at h
 ·cases h
 ·split at h
  ·cases h
  ·rename_i h1 h2; exact ⟨by simpa using h1, by simpa using h2⟩
theorem ji6 {n : Int} {t : z6} (h : jbK n t = 0) : jbv n t = false ∧ jaY t = false := by
 unfold jbK at h
 split at h
 ·cases h
 ·split at h
  ·cases h
  ·rename_i h1 h2; exact ⟨by simpa using h1, by simpa using h2⟩
theorem jgX {n : Int} {l : List q9} {j : Nat} (hj : j < l.length) (h : ∀ i (hi : i < l.length), i < j → jbc n l[i] = false ∧ jaK l[i] = false) (he : jbk n l[j] ≠ 0) : jal n l = jbk n l[j] := by
 rw [jbe (by omega) h, List.drop_eq_getElem_cons hj, jal]
 unfold jbk at he ⊢
 split
 ·rfl
 ·rename_i h1
  rw [if_neg h1] at he
  split
  ·rfl
  ·rename_i h2; rw [if_neg h2] at he; exact absurd rfl he
theorem jg7 {n : Int} {l : List z6} {j : Nat} (hj : j < l.length) (h : ∀ i (hi : i < l.length), i < j → jbv n l[i] = false ∧ jaY l[i] = false) (he : jbK n l[j] ≠ 0) : jaz n l = jbK n l[j] := by
 rw [jbn (by omega) h, List.drop_eq_getElem_cons hj, jaz]
 unfold jbK at he ⊢
 split
 ·rfl
 ·rename_i h1
  rw [if_neg h1] at he
  split
  ·rfl
  ·rename_i h2; rw [if_neg h2] at he; exact absurd rfl he
theorem jdL (n hd : Int) (A B C : Option Addr) (l : List Edg) (ts : List q9) (ns : List z6) (ca cb cc : Nat) (w0 : World) (hz : ja3 w0 A l) (ht : k8 4 k5 w0 B ts) (hn : k8 2 j8 w0 C ns) :
  Calls Tryz.prog 31 #[.agg #[I n, .slice A l.length ca, .slice B ts.length cb, .slice C ns.length cc, I hd]] w0 fun e w' => e = .returned (I (q7 n l ts ns hd)) ∧ Below w0.heap.size w0 w' := by
 have H := SH.refl w0
 refine Calls.ofWP Tryz.func31 rfl Tryz.results31 Tryz.ntmps31 rfl<|Y.qr<|Y.bx (cA rfl) H ?_
 clear H; intro g1 w H
 refine Y.bz rfl<|Y.qq<|Y.F rfl<|Y.v (Ev.loadN [_, _] (j6 rfl) (j4 rfl) rfl ⟨H.ldL 0 rfl _ rfl, H.ldL 0 rfl _ rfl, trivial⟩)<|Y.cl 12 rfl (jk4 n A l ca w (hz.sh H)) H ?_
 clear H; intro w H
 refine Y.bz rfl<|Y.qr<|Y.a rfl<|Y.V rfl<|Y.z ?_
 refine WP.cond rfl (fun hc2 => ?_) (fun hc2 => ?_)
 ·refine Y.qr<|Y.a rfl<|Y.bz rfl ?_
  refine WP.ret ⟨_, rfl, ?_⟩
  have h : jax n l ≠ 0 := by simpa using hc2
  exact ⟨by rw [q7, if_pos h]; rfl, H.below⟩
 have h0 : jax n l = 0 := by simpa using hc2
 refine Y.k<|Y.qq<|Y.W H 0 rfl<|Y.E rfl<|Y.v (Ev.gtr rfl rfl)<|Y.B rfl<|Y.gf rfl<|Y.yy H 0 rfl<|Y.g rfl rfl (fun hg => Ev.len (x7 rfl) (gvE hg rfl))<|Y.g rfl rfl (fun hg => Ev.gtr (gvE hg rfl) rfl)<|Y.po rfl<|Y.z ?_
 refine WP.cond rfl (fun hc4 => ?_) (fun hc4 => ?_)
 ·refine Y.qr<|Y.bz rfl ?_
  refine WP.ret ⟨_, rfl, ?_⟩
  exact ⟨by rw [q7, if_neg (by simp [h0]), if_pos (show jfs ts ns = true by simpa [jfs] using hc4)]; rfl, H.below⟩
 have hfu : jfs ts ns = false := by simpa [jfs] using hc4
 have hlt8 : ts.length ≤ 8 ∧ ns.length ≤ 16 := by simp at hc4; omega
 have e0 : q7 n l ts ns hd = if jal n ts ≠ 0 then jal n ts else if jaz n ns ≠ 0 then jaz n ns else if jbd ns = true then 6 else if inB hd 0 3600 = true then 0 else 1 := by rw [q7, if_neg (by simp [h0]), if_neg (by simp [hfu])]
 refine Y.k<|Y.qq<|Y.bz rfl<|WP.block<|WP.loop [2, 4, 5, 26, 27, 28, 29, 30, 31, 32, 33, 34, 35, 36, 37, 38, 39, 40, 41, 42] (fun k e w' => ∃ j : Nat, j + k = ts.length ∧ e 4 = I j ∧ SH w0 [] w' [⟨g1, 28, [I n, .slice A l.length ca, .slice B ts.length cb, .slice C ns.length cc, I hd]⟩] ∧ ∀ i (hi : i < ts.length), i < j → jbc n ts[i] = false ∧ jaK ts[i] = false) (ts.length) (⟨0, by omega, rfl, H, fun i _ hi => absurd hi (by omega)⟩) ?_
 clear H
 rintro k u w ⟨j, hk, h4', H, hall⟩
 refine WP.know (t := 4) h4'<|Y.qq<|Y.a rfl<|Y.W H 0 rfl<|Y.E rfl<|Y.lt rfl<|Y.z ?_
 refine WP.cond rfl (fun hc7 => ?_) (fun hc7 => ?_)
 ·have hlt : j < ts.length := by simpa using hc7
  obtain ⟨b, o, rfl, hc⟩ := ht j hlt
  refine Y.k<|Y.q<|WP.block<|Y.q<|WP.rquiet mixed (by kernel_rfl) H ?_
  clear H; intro w hbw9 H
  refine Y.O H 0 rfl<|Y.W H 0 rfl<|Y.a rfl<|Y.U rfl ?_
  have hc' := k7 H hc
  refine Y.v (by (change Ev _ _ _ _ (Op.load 81 (Operand.tmp 37)) _; exact Ev.loadN (k5 ts[j]) (j6 rfl) (j4 rfl) rfl hc')) ?_
  refine OPS.callq rfl rfl rfl (EvC.conv (EvC.func (z7 rfl)) (l2 rfl rfl)) (v := I (jbk n ts[j])) (fun w2 hb2 => jmw n hd A (some ⟨b, o, none⟩) C l.length ts.length ns.length ca cb cc ts[j] w2) ?_
  refine Y.b rfl<|OPS.nilq H ?_
  clear H; intro w hbx9 H
  refine Y.qr<|Y.a rfl<|Y.V rfl<|Y.z ?_
  refine WP.cond rfl (fun hc10 => ?_) (fun hc10 => ?_)
  ·refine Y.qr<|Y.a rfl<|Y.bz rfl ?_
   refine WP.ret ⟨_, rfl, ?_⟩
   have hne : jbk n ts[j] ≠ 0 := by simpa using hc10
   have he := jgX hlt hall hne
   exact ⟨by rw [e0, if_pos (by rw [he]; exact hne), he]; rfl, H.below⟩
  refine Y.k<|Y.r<|Y.a rfl<|Y.P rfl<|Y.bz rfl ?_
  refine ⟨Y.ag, k - 1, by omega, j + 1, by omega, rfl, H, fun i hi hij => ?_⟩
  rcases Nat.lt_succ_iff_lt_or_eq.1 hij with h | rfl
  ·exact hall i hi h
  ·exact jhi (by simpa using hc10)
 have hj : j = ts.length := by simp at hc7; omega
 subst hj
 have ht0 : jal n ts = 0 := by rw [jbe (by omega) hall]; simp [jal]
 clear hall
 refine WP.exit<|XB.hit<|Y.qq<|Y.bz rfl<|WP.block<|WP.loop [2, 6, 7, 43, 44, 45, 46, 47, 48, 49, 50, 51, 52, 53, 54, 55, 56, 57, 58, 59] (fun k e w' => ∃ j : Nat, j + k = ns.length ∧ e 6 = I j ∧ SH w0 [] w' [⟨g1, 28, [I n, .slice A l.length ca, .slice B ts.length cb, .slice C ns.length cc, I hd]⟩] ∧ ∀ i (hi : i < ns.length), i < j → jbv n ns[i] = false ∧ jaY ns[i] = false) (ns.length) (⟨0, by omega, rfl, H, fun i _ hi => absurd hi (by omega)⟩) ?_
 clear H
 rintro k u w ⟨j, hk, h6', H, hall⟩
 refine WP.know (t := 6) h6'<|Y.qq<|Y.a rfl<|Y.W H 0 rfl<|Y.E rfl<|Y.lt rfl<|Y.z ?_
 refine WP.cond rfl (fun hc13 => ?_) (fun hc13 => ?_)
 ·have hlt : j < ns.length := by simpa using hc13
  obtain ⟨b, o, rfl, hc⟩ := hn j hlt
  refine Y.k<|Y.q<|WP.block<|Y.q<|WP.rquiet mixed (by kernel_rfl) H ?_
  clear H; intro w hbw15 H
  refine Y.O H 0 rfl<|Y.W H 0 rfl<|Y.a rfl<|Y.U rfl ?_
  have hc' := k7 H hc
  refine Y.v (by (change Ev _ _ _ _ (Op.load 68 (Operand.tmp 54)) _; exact Ev.loadN (j8 ns[j]) (j6 rfl) (j4 rfl) rfl hc')) ?_
  refine OPS.callq rfl rfl rfl (EvC.conv (EvC.func (z7 rfl)) (l2 rfl rfl)) (v := I (jbK n ns[j])) (fun w2 hb2 => r42Need n hd A B (some ⟨b, o, none⟩) l.length ts.length ns.length ca cb cc ns[j] w2) ?_
  refine Y.b rfl<|OPS.nilq H ?_
  clear H; intro w hbx15 H
  refine Y.qr<|Y.a rfl<|Y.V rfl<|Y.z ?_
  refine WP.cond rfl (fun hc16 => ?_) (fun hc16 => ?_)
  ·refine Y.qr<|Y.a rfl<|Y.bz rfl ?_
   refine WP.ret ⟨_, rfl, ?_⟩
   have hne : jbK n ns[j] ≠ 0 := by simpa using hc16
   have he := jg7 hlt hall hne
   exact ⟨by rw [e0, if_neg (by rw [ht0]; simp), if_pos (by rw [he]; exact hne), he]; rfl, H.below⟩
  refine Y.k<|Y.r<|Y.a rfl<|Y.P rfl<|Y.bz rfl ?_
  refine ⟨Y.ag, k - 1, by omega, j + 1, by omega, rfl, H, fun i hi hij => ?_⟩
  rcases Nat.lt_succ_iff_lt_or_eq.1 hij with h | rfl
  ·exact hall i hi h
  ·exact ji6 (by simpa using hc16)
 have hj : j = ns.length := by simp at hc13; omega
 subst hj
 have hn0 : jaz n ns = 0 := by rw [jbn (by omega) hall]; simp [jaz]
 clear hall
 refine WP.exit<|XB.hit<|Y.qq<|Y.bz rfl<|WP.block<|WP.loop [2, 8, 9, 60, 61, 62, 63, 64, 65, 66, 67, 68, 69, 70, 71, 72, 73, 74, 75, 76, 77, 78, 79, 80, 81, 82, 83, 84] (fun k e w' => ∃ j : Nat, j + k = ns.length ∧ e 8 = I j ∧ SH w0 [] w' [⟨g1, 28, [I n, .slice A l.length ca, .slice B ts.length cb, .slice C ns.length cc, I hd]⟩] ∧ ((ns.map (·.node)).take j).Nodup) (ns.length) (⟨0, by omega, rfl, H, by simp⟩) ?_
 clear H
 rintro k u w ⟨j, hk, h8', H, hall⟩
 refine WP.know (t := 8) h8'<|Y.qq<|Y.a rfl<|Y.W H 0 rfl<|Y.E rfl<|Y.lt rfl<|Y.z ?_
 refine WP.cond rfl (fun hc19 => ?_) (fun hc19 => ?_)
 ·have hlt : j < ns.length := by simpa using hc19
  obtain ⟨b, o, rfl, hc⟩ := hn j hlt
  have hcj : w0.cell? ⟨b, o + j * 2, none⟩ = some (I ns[j].node) := hc.1
  have hmj : j < (ns.map (·.node)).length := by simpa using hlt
  have hnt := jbB (l := ns.map (·.node)) hmj
  refine Y.k<|Y.q<|WP.block<|Y.qr<|Y.bz rfl<|WP.block<|WP.loop [2, 9, 67, 68, 69, 70, 71, 72, 73, 74, 75, 76, 77, 78, 79, 80, 81, 82, 83, 84] (fun k2 e w' => ∃ i : Nat, i + k2 = j ∧ e 9 = I i ∧ SH w0 [] w' [⟨g1, 28, [I n, .slice A l.length ca, .slice B ts.length cb, .slice (some ⟨b, o, none⟩) ns.length cc, I hd]⟩] ∧ (ns.map (·.node))[j] ∉ (ns.map (·.node)).take i) (j) (⟨0, by omega, rfl, H, by simp⟩) ?_
  clear H
  rintro k2 u2 w ⟨i, hk2, h9', H, hno⟩
  refine WP.know (t := 9) h9'<|Y.qq<|Y.a rfl<|Y.a rfl<|Y.lt rfl<|Y.z ?_
  refine WP.cond rfl (fun hc22 => ?_) (fun hc22 => ?_)
  ·have hij : i < j := by simpa using hc22
   have hil : i < ns.length := by omega
   have hmi : i < (ns.map (·.node)).length := by simpa using hil
   have hci : w0.cell? ⟨b, o + i * 2, none⟩ = some (I ns[i].node) := by
    obtain ⟨b', o', he, hx⟩ := hn i hil
    cases he; exact hx.1
   refine Y.k<|Y.q<|WP.block<|Y.q<|WP.rstill mixed (by kernel_rfl) H ?_
   clear H; intro w hbw24 H
   refine Y.W H 0 rfl<|Y.a rfl<|Y.U rfl<|Y.F rfl<|Y.v (Y.c (H.ld0 (by assumption)) rfl) ?_
   refine Y.W H 0 rfl<|Y.a rfl<|Y.U rfl<|Y.F rfl<|Y.v (Y.c (H.ld0 (by assumption)) rfl) ?_
   refine Y.v (Ev.eql rfl rfl)<|OPS.nil_s ?_
   refine WP.cond rfl (fun hc24 => ?_) (fun hc24 => ?_)
   ·refine Y.qr<|Y.bz rfl ?_
    refine WP.ret ⟨_, rfl, ?_⟩
    have he : ns[i].node = ns[j].node := by simpa using hc24
    have hm : (ns.map (·.node))[j] ∈ (ns.map (·.node)).take j := by
     rw [show (ns.map (·.node))[j] = (ns.map (·.node))[i] by simp [he]]
     exact List.mem_take_iff_getElem.2 ⟨i, by omega, rfl⟩
    have : jbd ns = true := by
     unfold jbd jaA
     rw [Bool.not_eq_true', decide_eq_false_iff_not]
     exact fun h => (hnt.1 (jb4 h)).2 hm
    exact ⟨by rw [e0, ht0, hn0, this]; rfl, H.below⟩
   refine Y.k<|Y.r<|Y.a rfl<|Y.P rfl<|Y.bz rfl ?_
   have he : ¬ ns[i].node = ns[j].node := by simpa using hc24
   refine ⟨Y.ag, k2 - 1, by omega, i + 1, by omega, rfl, H, ?_⟩
   rw [List.take_succ_eq_append_getElem hmi]
   simp only [List.mem_append, List.mem_singleton, not_or]
   exact ⟨hno, fun h => he (by simpa using h.symm)⟩
  refine WP.exit<|XB.hit<|Y.r<|Y.a rfl<|Y.P rfl<|Y.bz rfl ?_
  have hij : i = j := by simp at hc22; omega
  subst hij
  exact ⟨Y.ag, k - 1, by omega, i + 1, by omega, rfl, H, hnt.2 ⟨hall, hno⟩⟩
 have hj : j = ns.length := by simp at hc19; omega
 have hnd : jbd ns = false := by
  rw [hj, show ns.length = (ns.map (·.node)).length by simp, List.take_length] at hall
  simp only [jbd, jaA, hall, decide_true]; rfl
 have e1 : q7 n l ts ns hd = if inB hd 0 3600 = true then 0 else 1 := by rw [e0, ht0, hn0, hnd]; simp
 refine WP.exit<|XB.hit<|Y.qq<|Y.W H 0 rfl<|Y.lt rfl<|Y.B rfl<|Y.gf rfl<|Y.yy H 0 rfl<|Y.g rfl rfl (fun hg => Ev.gtr (gvE hg rfl) rfl)<|Y.po rfl<|Y.z ?_
 refine WP.cond rfl (fun hc26 => ?_) (fun hc26 => ?_)
 ·refine Y.qr<|Y.bz rfl ?_
  refine WP.ret ⟨_, rfl, ?_⟩
  exact ⟨by rw [e1, if_neg (by simp at hc26; simp [inB]; omega)]; rfl, H.below⟩
 refine Y.k<|Y.qr<|Y.bz rfl ?_
 refine WP.ret ⟨_, rfl, ?_⟩
 exact ⟨by rw [e1, if_pos (by simp at hc26; simp [inB]; omega)]; rfl, H.below⟩
end Go.Proofs.YtgcokllbophkkaaGreat
namespace Go.Proofs.YtgcokllbophkkaaGreat
open Go Go.W Go.RowKit
theorem jmK (n hd rt : Int) (A B C R : Option Addr) (ll : Nat) (ts : List q9) (ns : List z6) (rn : List Int) (ca cb cc cr : Nat) (w0 : World) (hr : k9 w0 R rn) (hrl : rn.length ≤ maxLen) (htl : ts.length ≤ 8) (hnl : ns.length ≤ 16) :
  Calls Tryz.prog 90 #[.agg #[I n, .slice A ll ca, .slice B ts.length cb, .slice C ns.length cc, I hd], .agg #[I rt, .slice R rn.length cr]] w0 fun e w' => e = .returned (I (y4 ts ns rt rn)) ∧ Below w0.heap.size w0 w' := by
 have H := SH.refl w0
 have hl' : rn.length ≤ 9223372036854775807 := by unfold maxLen at hrl; omega
 refine Calls.ofWP Tryz.func90 rfl Tryz.results90 Tryz.ntmps90 rfl<|Y.qr<|Y.bx (cA rfl) H ?_
 clear H; intro g2 w H
 refine Y.bx (cA rfl) H ?_
 clear H; intro g3 w H
 refine Y.bz rfl<|Y.qq<|Y.W H 0 rfl<|Y.lt rfl<|Y.B rfl<|Y.gf rfl<|Y.yy H 0 rfl<|Y.gf rfl<|Y.yy H 1 rfl<|Y.g rfl rfl (fun hg => Ev.len (x7 rfl) (gvE hg rfl))<|Y.g rfl rfl (fun hg => Ev.geq (gvE hg rfl) (gvE hg rfl))<|Y.po rfl<|Y.z ?_
 refine WP.cond rfl (fun hc1 => ?_) (fun hc1 => ?_)
 ·refine Y.qr<|Y.bz rfl ?_
  refine WP.ret ⟨_, rfl, ?_⟩
  have h : jc5 ts.length rt = true := by
   simp at hc1
   simp [jc5, inB]
   omega
  exact ⟨by rw [y4, if_pos (Or.inl h)]; rfl, H.below⟩
 have h1 : ¬ jc5 ts.length rt = true := by
  simp at hc1
  simp [jc5, inB]
  omega
 refine Y.k<|Y.qq<|Y.bz rfl<|WP.block<|WP.loop [4, 5, 17, 18, 19, 20, 21, 22, 23, 24, 25, 26, 27, 28, 29, 30, 31, 32, 33, 34, 35, 36, 37, 38, 39, 40] (fun k e w' => ∃ j : Nat, j + k = rn.length ∧ e 5 = I j ∧ SH w0 [] w' [⟨g3, 49, [I rt, .slice R rn.length cr]⟩, ⟨g2, 28, [I n, .slice A ll ca, .slice B ts.length cb, .slice C ns.length cc, I hd]⟩] ∧ ∀ i (hi : i < rn.length), i < j → jc5 ns.length rn[i] = false) (rn.length) (⟨0, by omega, rfl, H, fun i _ hi => absurd hi (by omega)⟩) ?_
 clear H
 rintro k u w ⟨j, hk, h5, H, hall⟩
 refine WP.know (t := 5) h5<|Y.qq<|Y.a rfl<|Y.W H 0 rfl<|Y.E rfl<|Y.lt rfl<|Y.z ?_
 refine WP.cond rfl (fun hc4 => ?_) (fun hc4 => ?_)
 ·have hlt : j < rn.length := by simpa using hc4
  obtain ⟨b, o, rfl, hx⟩ := hr j hlt
  refine Y.k<|Y.q<|WP.block<|Y.q<|WP.rstill mixed (by kernel_rfl) H ?_
  clear H; intro w hbw6 H
  refine Y.W H 0 rfl<|Y.a rfl<|Y.I rfl<|Y.v (Y.c (H.ld0 (by assumption)) rfl) ?_
  refine Y.lt rfl<|Y.B rfl<|Y.gf rfl<|Y.yy H 0 rfl<|Y.gm rfl<|Y.g rfl rfl (fun hg => Ev.indexAddr1 (x7 rfl) (j4 rfl) (gvE hg rfl) (gvE hg rfl) rfl (by omega))<|Y.g rfl rfl (fun hg => Ev.load1 (j6 rfl) (gvE hg rfl) (H.ld0 (by assumption))) ?_
  refine Y.gf rfl<|Y.yy H 1 rfl<|Y.g rfl rfl (fun hg => Ev.len (x7 rfl) (gvE hg rfl))<|Y.g rfl rfl (fun hg => Ev.geq (gvE hg rfl) (gvE hg rfl))<|Y.po rfl<|OPS.nil_s ?_
  refine WP.cond rfl (fun hc6 => ?_) (fun hc6 => ?_)
  ·refine Y.qr<|Y.bz rfl ?_
   refine WP.ret ⟨_, rfl, ?_⟩
   have h : jc5 ns.length rn[j] = true := by
    simp at hc6
    simp [jc5, inB]
    omega
   exact ⟨by rw [y4, if_pos (Or.inr (List.any_eq_true.2 ⟨rn[j], List.getElem_mem hlt, h⟩))]; rfl, H.below⟩
  refine Y.k<|Y.r<|Y.a rfl<|Y.P rfl<|Y.bz rfl ?_
  have h : jc5 ns.length rn[j] = false := by
   simp at hc6
   simp [jc5, inB]
   omega
  refine ⟨Y.ag, k - 1, by omega, j + 1, by omega, rfl, H, fun i hi hij => ?_⟩
  rcases Nat.lt_succ_iff_lt_or_eq.1 hij with h' | rfl
  ·exact hall i hi h'
  ·exact h
 have hj : j = rn.length := by simp at hc4; omega
 have h2 : ¬ (jc5 ts.length rt = true ∨ rn.any (jc5 ns.length) = true) := by
  rintro (h | h)
  ·exact h1 h
  ·obtain ⟨x, hx, he⟩ := List.any_eq_true.1 h
   obtain ⟨i, hi, rfl⟩ := List.mem_iff_getElem.1 hx
   rw [hall i hi (by omega)] at he; cases he
 refine WP.exit<|XB.hit<|Y.qq<|Y.W H 0 rfl<|Y.cl 43 rfl (jfZ R rn cr w (hr.sh H) hrl) H ?_
 clear H; intro w H
 refine Y.z ?_
 refine WP.cond rfl (fun hc8 => ?_) (fun hc8 => ?_)
 ·refine Y.qr<|Y.bz rfl ?_
  refine WP.ret ⟨_, rfl, ?_⟩
  exact ⟨by rw [y4, if_neg h2, if_pos hc8]; rfl, H.below⟩
 refine Y.k<|Y.qr<|Y.bz rfl ?_
 refine WP.ret ⟨_, rfl, ?_⟩
 exact ⟨by rw [y4, if_neg h2, if_neg (by simpa using hc8)]; rfl, H.below⟩
end Go.Proofs.YtgcokllbophkkaaGreat
namespace Go.Proofs.YtgcokllbophkkaaGreat
open Go Go.W Go.RowKit
theorem perm5 {a b c d e : Blk} {Lo Lc : List Blk} : (a :: ([b, c, d, e] ++ Lo ++ Lc)).Perm (([a, b, c, d, e] ++ Lc) ++ Lo) := by
 rw [show (a :: ([b, c, d, e] ++ Lo ++ Lc)) = [a, b, c, d, e] ++ (Lo ++ Lc) by simp, List.append_assoc]
 exact List.perm_append_comm.append_left _
theorem sub5 {a b c d e : Blk} {Lo Lc : List Blk} : ([c, d, e] ++ Lo).Sublist (([a, b, c, d, e] ++ Lc) ++ Lo) :=
 (List.Sublist.append (((List.Sublist.refl [c, d, e]).cons b).cons a |>.trans (List.sublist_append_left _ Lc)) (List.Sublist.refl Lo))
theorem jgG {D : Nat → Nat → Int} {cap hd : Int} {ns : List z6} {rn : List Int} {s0 : TS} {j : Nat} {c : Int} (h : goE D cap hd ns (rn.take j) s0 = c) (hc : c ≠ 0) : goE D cap hd ns rn s0 = c := by
 have h2 := jed D cap hd ns (rn.take j) (rn.drop j) s0
 rw [List.take_append_drop, h, if_pos hc] at h2; exact h2
theorem jgU (n hd rt : Int) (A B C R : Option Addr) (l : List Edg) (ts : List q9) (ns : List z6) (rn : List Int) (ca cb cc cr : Nat) (w0 : World) (hz : ja3 w0 A l) (ht : k8 4 k5 w0 B ts) (hn : k8 2 j8 w0 C ns) (hr : k9 w0 R rn) (hrl : rn.length ≤ maxLen) :
  Calls Tryz.prog 63 #[.agg #[I n, .slice A l.length ca, .slice B ts.length cb, .slice C ns.length cc, I hd], .agg #[I rt, .slice R rn.length cr]] w0 fun e w' =>
   ∃ (V : Option Addr) (cv : Nat) (Lv : List Blk), e = .returned (.tuple #[.slice V (jgf n l ts ns hd rt rn).length cv, I (jeQ n l ts ns hd rt rn), I (jf3 n l ts ns hd rt rn), I (y7 n l ts ns hd rt rn)]) ∧ OwnS V cv (jgf n l ts ns hd rt rn).length ((jgf n l ts ns hd rt rn).flatMap jbb) 127 4 Lv ∧ SH w0 [] w' Lv := by
 have H := SH.refl w0
 have hbad : ∀ (w : World) (L : List Blk) (c : Int), SH w0 [] w L → y7 n l ts ns hd rt rn = c → c ≠ 0 → ∃ (V : Option Addr) (cv : Nat) (Lv : List Blk), Ending.returned (.tuple #[.slice none 0 0, I 0, I 0, I c]) = .returned (.tuple #[.slice V (jgf n l ts ns hd rt rn).length cv, I (jeQ n l ts ns hd rt rn), I (jf3 n l ts ns hd rt rn), I (y7 n l ts ns hd rt rn)]) ∧ OwnS V cv (jgf n l ts ns hd rt rn).length ((jgf n l ts ns hd rt rn).flatMap jbb) 127 4 Lv ∧ SH w0 [] w Lv := fun w L c H he hc => by
  have hne : ¬ y7 n l ts ns hd rt rn = 0 := by rw [he]; exact hc
  have e1 : jgf n l ts ns hd rt rn = [] := if_neg hne
  have e2 : jeQ n l ts ns hd rt rn = 0 := if_neg hne
  have e3 : jf3 n l ts ns hd rt rn = 0 := if_neg hne
  rw [e1, e2, e3, he]
  exact ⟨none, 0, [], rfl, OwnS.nil, H.reidx [] (by decide) rfl⟩
 refine Calls.ofWP Tryz.func63 rfl Tryz.results63 Tryz.ntmps63 rfl<|Y.qr<|Y.bx (cA rfl) H ?_
 clear H; intro g2 w H
 refine Y.bx (cA rfl) H ?_
 clear H; intro g3 w H
 refine Y.aS rfl<|Y.b rfl<|Y.b rfl<|Y.bz rfl<|Y.qq<|Y.O H 1 rfl<|Y.cl 24 rfl (jdL n hd A B C l ts ns ca cb cc w (hz.sh H) (ht.sh H) (hn.sh H)) H ?_
 clear H; intro w H
 refine Y.bz rfl<|Y.qr<|Y.a rfl<|Y.V rfl<|Y.z ?_
 refine WP.cond rfl (fun hc2 => ?_) (fun hc2 => ?_)
 ·refine Y.qr<|Y.a rfl<|Y.aS rfl<|Y.b rfl<|Y.b rfl<|Y.bz rfl ?_
  refine WP.ret ⟨_, rfl, ?_⟩
  have h : q7 n l ts ns hd ≠ 0 := by simpa using hc2
  exact hbad _ _ _ H (by rw [y7, if_pos h]) h
 have h0 : q7 n l ts ns hd = 0 := by simpa using hc2
 obtain ⟨m, rfl, hN⟩ := jaO h0
 have htl := hN.tl
 have hnl := hN.nl
 have hh := hN.hh
 refine Y.k<|Y.qq<|Y.O H 1 rfl<|Y.O H 0 rfl<|Y.cl 30 rfl (jmK m hd rt A B C R l.length ts ns rn ca cb cc cr w (hr.sh H) hrl htl hnl) H ?_
 clear H; intro w H
 refine Y.bz rfl<|Y.qr<|Y.a rfl<|Y.V rfl<|Y.z ?_
 refine WP.cond rfl (fun hc5 => ?_) (fun hc5 => ?_)
 ·refine Y.qr<|Y.a rfl<|Y.aS rfl<|Y.b rfl<|Y.b rfl<|Y.bz rfl ?_
  refine WP.ret ⟨_, rfl, ?_⟩
  have h : y4 ts ns rt rn ≠ 0 := by simpa using hc5
  exact hbad _ _ _ H (by rw [y7, if_neg (by simp [h0]), if_pos h]) h
 have he0 : y4 ts ns rt rn = 0 := by simpa using hc5
 obtain ⟨hrt, hrr, hrd, hrlen⟩ := jbX he0
 obtain ⟨q, rfl⟩ := Int.eq_ofNat_of_zero_le hrt.1
 have hq : q < ts.length := by omega
 have hgt : ts.getD (q : Int).toNat default = ts[q] := by simp [hq]
 obtain ⟨bt, ot, rfl, htc⟩ := ht q hq
 have htr := hN.tr ts[q] (List.getElem_mem hq)
 have hw : y7 m l ts ns hd q rn = if goE (jac m l) ts[q].cap hd ns rn (y3 ts[q]) ≠ 0 then goE (jac m l) ts[q].cap hd ns rn (y3 ts[q]) else jce (jac m l (goT (jac m l) hd ns rn (y3 ts[q])).at_ ts[q].depot.toNat) hd ts[q] (goT (jac m l) hd ns rn (y3 ts[q])) := by
  rw [y7, if_neg (by simp [h0]), if_neg (by simp [he0])]
  unfold jg8
  rw [hgt]
 have hwT : jef m l ts ns hd q rn = jf9 (jac m l (goT (jac m l) hd ns rn (y3 ts[q])).at_ ts[q].depot.toNat) hd ts[q] (goT (jac m l) hd ns rn (y3 ts[q])) := by
  unfold jef jg8
  rw [hgt]
 have hwV : jfm m l ts ns hd q rn = goV (jac m l) hd ns rn (y3 ts[q]) := by
  unfold jfm
  rw [hgt]
 obtain ⟨dv, hdv⟩ := Int.eq_ofNat_of_zero_le htr.1.1
 generalize htt : ts[q] = t at *
 have htc' := k7 H htc
 refine Y.k<|Y.qr<|Y.W H 1 rfl<|Y.W H 0 rfl<|Y.U rfl<|Y.v (by (change Ev _ _ _ _ (Op.load 81 (Operand.tmp 38)) _; exact Ev.loadN (k5 t) (j6 rfl) (j4 rfl) rfl htc'))<|Y.al H rfl rfl ?_
 clear H; intro g10 w H
 refine Y.ss 0 H rfl (cA rfl) rfl ?_
 clear H; intro w H
 refine Y.z<|Y.q<|WP.rstill mixed (by kernel_rfl) H ?_
 clear H; intro w hbw8 H
 refine Y.W H 0 rfl<|Y.F rfl<|Y.W H 0 rfl<|Y.b rfl<|Y.b rfl<|Y.b rfl<|Y.b rfl<|OPS.nil_s<|Y.qr<|Y.aS rfl<|Y.z<|Y.qq<|Y.bz rfl<|WP.block<|WP.loop [4, 5, 6, 7, 11, 12, 13, 14, 15, 16, 17, 18, 19, 20, 45, 46, 47, 48, 49, 50, 51, 52, 53, 54, 55, 56, 57, 58, 59, 60, 61, 62, 63, 64, 65, 66, 67, 68, 69, 70, 71, 72, 73, 74, 75, 76, 77, 78, 79, 80, 81, 82, 83, 84, 85, 86, 87, 88, 89, 90, 91, 92, 93, 94, 95, 96, 97, 98, 99, 100, 101, 102, 103, 104, 105, 106, 107, 108, 109, 110, 111, 112, 113, 114, 115, 116, 117, 118, 119, 120, 121, 122, 123, 124] (fun k e w' => ∃ (j : Nat) (s : TS) (V : Option Addr) (cv : Nat) (Lo : List Blk), j + k = rn.length ∧ e 16 = I j ∧ e 15 = .slice V j cv ∧ e 11 = I s.at_ ∧ e 12 = I s.now ∧ e 13 = I s.load ∧ e 14 = I s.driven ∧ OwnS V cv j ((goV (jac m l) hd ns (rn.take j) (y3 t)).flatMap jbb) 127 4 Lo ∧ goT (jac m l) hd ns (rn.take j) (y3 t) = s ∧ goE (jac m l) t.cap hd ns (rn.take j) (y3 t) = 0 ∧ jkO m t.cap j s ∧ SH w0 [] w' ([⟨g10, 81, k5 t⟩, ⟨g3, 49, [I q, .slice R rn.length cr]⟩, ⟨g2, 28, [I m, .slice A l.length ca, .slice (some ⟨bt, ot, none⟩) ts.length cb, .slice C ns.length cc, I hd]⟩] ++ Lo)) (rn.length) (⟨0, y3 t, none, 0, [], by omega, rfl, rfl, (by show I t.depot = I (t.depot.toNat : Int); rw [hdv]; simp), rfl, rfl, rfl, OwnS.nil, rfl, rfl, jkO.start htr, (by rw [List.append_nil]; exact H)⟩) ?_
 clear H
 rintro k u w ⟨j, s, V, cv, Lo, hk, h16, h15, h11, h12, h13, h14, hO, hgT, hgE, hS, H⟩
 refine WP.know (t := 16) h16 (WP.know (t := 15) h15 (WP.know (t := 11) h11 (WP.know (t := 12) h12 (WP.know (t := 13) h13 (WP.know (t := 14) h14 ?_)))))
 have hjn : j ≤ 16 := by omega
 have hSn := hS.now
 have hSd := hS.driven
 have hSl := hS.load
 have htc2 := htr.2.1
 refine Y.qq<|Y.a rfl<|Y.W H 1 rfl<|Y.E rfl<|Y.lt rfl<|Y.z ?_
 refine WP.cond rfl (fun hc11 => ?_) (fun hc11 => ?_)
 ·have hlt : j < rn.length := by simp at hc11; omega
  obtain ⟨hi0, hi1⟩ := hrr rn[j] (List.getElem_mem hlt)
  obtain ⟨ni, hni⟩ := Int.eq_ofNat_of_zero_le hi0
  have hnl2 : ni < ns.length := by omega
  have hnx := hN.nd ns[ni] (List.getElem_mem hnl2)
  obtain ⟨br, orr, rfl, hx⟩ := hr j hlt
  obtain ⟨bn, on, rfl, hnc⟩ := hn ni hnl2
  rw [hni] at hx
  have hna : jaw ns rn[j] = ns[ni] := by rw [hni]; simp [jaw, hnl2]
  have hgD : goD (jac m l) ns rn[j] s = x9 m l s.at_ ns[ni].node.toNat := by unfold goD jac; rw [hna]; simp
  have htk : rn.take (j + 1) = rn.take j ++ [rn[j]] := List.take_succ_eq_append_getElem hlt
  have hE1 : goE (jac m l) t.cap hd ns (rn.take (j + 1)) (y3 t) = jat (x9 m l s.at_ ns[ni].node.toNat) t.cap ns[ni] s := by
   rw [htk, jed, hgE, hgT]
   simp only [goE, hgD, hna]
   by_cases h : jat (x9 m l s.at_ ns[ni].node.toNat) t.cap ns[ni] s = 0 <;> simp [h]
  refine Y.k<|Y.q<|WP.block<|Y.q ?_
  refine WP.rheldC [17, 52, 53, 54, 55, 56, 57, 58, 59, 60] (fun u w' => ∃ g17 : Nat, u 17 = .pointer (some ⟨g17, 0, none⟩) ∧ SH w0 [] w' ([⟨g17, 68, j8 ns[ni]⟩, ⟨g10, 81, k5 t⟩, ⟨g3, 49, [I q, .slice (some ⟨br, orr, none⟩) rn.length cr]⟩, ⟨g2, 28, [I m, .slice A l.length ca, .slice (some ⟨bt, ot, none⟩) ts.length cb, .slice (some ⟨bn, on, none⟩) ns.length cc, I hd]⟩] ++ Lo)) mixed H ?_ ?_
  ·clear H; intro w hbw13 H
   refine Y.tf 0 H rfl<|Y.tl 1 H 2 rfl<|Y.tf 2 H rfl<|Y.tl 3 H 1 rfl<|Y.t 4 H rfl rfl (fun w H => Y.m rfl)<|Y.t 5 H rfl rfl (fun w H => Y.x rfl rfl rfl rfl)<|Y.t 6 H rfl rfl (fun w H => Y.c (H.ld0 (by assumption)) rfl) ?_
   refine Y.t 7 H rfl rfl (fun w H => Y.X rfl rfl rfl rfl rfl) ?_
   refine OPH.take 8 rfl rfl rfl rfl (by kernel_rfl) (by kernel_rfl) (by kernel_rfl) rfl (by exact H) (fun w H => (by (change Ev _ _ _ _ (Op.load 68 (Operand.tmp 59)) _; (refine Ev.loadN (b := bn) (o := on + ni * 2) (j8 ns[ni]) ?_ ?_ ?_ (k7 H hnc); exact j6 rfl; exact j4 rfl; rfl)))) ?_
   refine Y.A1 9 rfl rfl<|Y.al H rfl rfl ?_
   clear H; intro g17 w H
   refine Y.z <| ⟨(H.drop Y.sc), ?_⟩
   refine Y.A1 10 rfl rfl<|Y.ss 0 H rfl (cA rfl) rfl ?_
   clear H; intro w H
   refine Y.z <| ⟨(H.drop Y.sc), ?_⟩
   refine Y.dn ?_
   exact ⟨Y.ag, g17, rfl, H⟩
  clear H
  rintro u w ⟨g17, h17, H⟩
  refine WP.know (t := 17) h17<|Y.qr<|Y.F rfl<|Y.v (Ev.loadN [_, _] (j6 rfl) (j4 rfl) rfl ⟨H.ldL 3 rfl _ rfl, H.ldL 3 rfl _ rfl, trivial⟩)<|Y.a rfl<|Y.c2 65 rfl (jhd m s.at_ A l ca w (hz.sh H)) ?_
  rintro _ w ⟨TA, Lc, rfl, hOL, Hc⟩
  refine ⟨_, rfl, ?_⟩
  replace H := SH.call (Lv := []) (by rw [List.append_nil]; exact H) Hc
  clear Hc
  obtain ⟨hte, htl'⟩ := jcb hN.road hS.at_
  have htn := jau m l s.at_
  rw [htl'] at hOL
  obtain ⟨v, hv⟩ := Int.eq_ofNat_of_zero_le hnx.1.1
  have hvm : v < m := by omega
  have hvT : ns[ni].node.toNat = v := by omega
  have hbd := jca hN.road hS.at_ hvm
  have hcd : j8 ns[ni] = [I v, I ns[ni].move] := by unfold j8; rw [hv]
  rw [hcd] at H
  have hvl : v < (jaq m l s.at_).length := by rw [htl']; omega
  have htv : (jan m l s.at_)[v]'(by omega) = x9 m l s.at_ v := jbG (by omega)
  have hx0 := hOL.rd H (fun b hb => List.mem_append_right _ hb)
  obtain ⟨bT, oT, rfl, _⟩ := hx0 v (by omega)
  have hxv := hx0.atK (show v < (jan m l s.at_).length by omega)
  rw [htv] at hxv
  rw [hvT] at hE1
  have hxa : 0 ≤ jdR ns[ni].move ∧ jdR ns[ni].move ≤ 32 := by unfold jdR; split <;> omega
  have hmul2 : 0 ≤ (if ns[ni].move < -ns[ni].move then -ns[ni].move else ns[ni].move) * hd ∧ (if ns[ni].move < -ns[ni].move then -ns[ni].move else ns[ni].move) * hd ≤ 115200 := by
   refine ⟨Int.mul_nonneg hxa.1 hh.1, ?_⟩
   calc jdR ns[ni].move * hd ≤ 32 * hd := Int.mul_le_mul_of_nonneg_right hxa.2 hh.1
    _ ≤ 115200 := by omega
  refine Y.T rfl<|Y.G rfl<|Y.G rfl<|Y.aS rfl<|Y.bz rfl<|Y.qq<|Y.sS rfl<|Y.W H 0 rfl<|Y.I rfl<|Y.v (Y.c (by assumption) rfl) ?_
  refine Y.lt rfl<|Y.z ?_
  refine WP.cond rfl (fun hc15 => ?_) (fun hc15 => ?_)
  ·refine Y.qr<|Y.aS rfl<|Y.b rfl<|Y.b rfl<|Y.bz rfl ?_
   refine WP.ret ⟨_, rfl, ?_⟩
   have hd0 : x9 m l s.at_ v < 0 := by simpa using hc15
   have hve : jat (x9 m l s.at_ v) t.cap ns[ni] s = 15 := by rw [jat, if_pos hd0]
   have hEn := jgG hE1 (by rw [hve]; decide)
   rw [hve] at hEn
   exact hbad _ _ _ H (by rw [hw, hEn]; rfl) (by decide)
  have hd0 : ¬ x9 m l s.at_ v < 0 := by simpa using hc15
  refine Y.k<|Y.qr<|Y.a rfl<|Y.W H 0 rfl<|Y.P rfl<|Y.bz rfl<|Y.qq<|Y.a rfl<|Y.lt rfl<|Y.B rfl<|Y.gm rfl<|Y.gf rfl<|Y.yy H 1 rfl<|Y.g rfl rfl (fun hg => Ev.gtr (gvE hg rfl) (gvE hg rfl))<|Y.po rfl<|Y.z ?_
  refine WP.cond rfl (fun hc18 => ?_) (fun hc18 => ?_)
  ·refine Y.qr<|Y.aS rfl<|Y.b rfl<|Y.b rfl<|Y.bz rfl ?_
   refine WP.ret ⟨_, rfl, ?_⟩
   have hnb : ¬ inB (s.load + ns[ni].move) 0 t.cap = true := by simp [inB]; simp at hc18; omega
   have hve : jat (x9 m l s.at_ v) t.cap ns[ni] s = 24 := by rw [jat, if_neg hd0, if_neg hnb]
   have hEn := jgG hE1 (by rw [hve]; decide)
   rw [hve] at hEn
   exact hbad _ _ _ H (by rw [hw, hEn]; rfl) (by decide)
  have hnb : inB (s.load + ns[ni].move) 0 t.cap = true := by simp [inB]; simp at hc18; omega
  have hve : jat (x9 m l s.at_ v) t.cap ns[ni] s = 0 := by rw [jat, if_neg hd0, if_pos hnb]
  refine Y.k<|Y.qr<|Y.a rfl<|Y.sS rfl<|Y.W H 0 rfl<|Y.I rfl<|Y.v (Y.c (by assumption) rfl) ?_
  refine Y.P rfl<|Y.bz rfl<|Y.qr<|Y.a rfl<|Y.W H 0 rfl<|Y.W H 0 rfl<|Y.v (Ev.neg rfl (by unfold fits; omega))<|Y.v (Ev.max rfl rfl)<|Y.W H 3 rfl<|Y.v (Ev.mul rfl rfl (by unfold fits; omega))<|Y.P rfl<|Y.bz rfl<|Y.q<|WP.rstill mixed (by kernel_rfl) H ?_
  clear H; intro w hbw22 H
  refine Y.W H 0 rfl<|Y.a rfl<|Y.sS rfl<|Y.W H 0 rfl<|Y.I rfl ?_
  replace hxv := cell_below hbw22 hxv
  refine Y.v (Y.c (by assumption) rfl) ?_
  refine Y.P rfl<|Y.b rfl<|Y.b rfl<|OPS.nil_s<|Y.r<|Y.sS rfl<|Y.W H 2 rfl<|Y.a rfl<|Y.I rfl<|Y.v (Y.c (H.ld0 (by assumption)) rfl) ?_
  refine Y.a rfl<|Y.a rfl<|Y.a rfl<|Y.v (Ev.build (je0 rfl rfl rfl rfl))<|OPS.buildSlice rfl rfl rfl rfl (jfT rfl) H ?_
  clear H; intro g123 w H
  refine OPS.append (m := 1) (news := jbb (jdw (x9 m l s.at_ v) hd ni ns[ni] s)) (R := [⟨g123, 127, jbb (jdw (x9 m l s.at_ v) hd ni ns[ni] s)⟩, ⟨g17, 68, [I v, I ns[ni].move]⟩, ⟨g10, 81, k5 t⟩, ⟨g3, 49, [I q, .slice (some ⟨br, orr, none⟩) rn.length cr]⟩, ⟨g2, 28, [I m, .slice A l.length ca, .slice (some ⟨bt, ot, none⟩) ts.length cb, .slice (some ⟨bn, on, none⟩) ns.length cc, I hd]⟩] ++ Lc) rfl rfl rfl rfl rfl (z8 rfl) rfl rfl hO rfl (y0 H 0 rfl) rfl (by omega) (by unfold maxLen; omega) H perm5 ?_
  clear H hO; intro V cv Lo w hO H
  refine Y.aS rfl<|Y.z<|Y.r<|Y.a rfl<|Y.P rfl<|Y.bz rfl ?_
  have hve' : jat (x9 m l s.at_ ns[ni].node.toNat) t.cap ns[ni] s = 0 := by rw [hvT]; exact hve
  have hS1 := hS.step hN.road hnx hh hve'
  have hT1 : goT (jac m l) hd ns (rn.take (j + 1)) (y3 t) = jbP (x9 m l s.at_ ns[ni].node.toNat) hd ns[ni] s := by rw [htk, jf7, hgT]; simp only [goT, hgD, hna]
  have hV1 : goV (jac m l) hd ns (rn.take (j + 1)) (y3 t) = goV (jac m l) hd ns (rn.take j) (y3 t) ++ [jdw (x9 m l s.at_ v) hd ni ns[ni] s] := by rw [htk, jhp, hgT]; (simp only [goV, hgD, hna]; rw [hni, hvT])
  exact ⟨Y.ag, k - 1, by omega, j + 1, jbP (x9 m l s.at_ ns[ni].node.toNat) hd ns[ni] s, V, cv, Lo, by omega, rfl, rfl, (by show I (v : Int) = I ((ns[ni].node.toNat : Nat) : Int); rw [hvT]), (by rw [hvT]; rfl), rfl, (by rw [hvT]; rfl), (by rw [hV1, List.flatMap_append]; simpa using hO), hT1, (by rw [hE1]; exact hve), hS1, H.drop sub5⟩
 have hj : j = rn.length := by simp at hc11; omega
 subst hj
 rw [List.take_length] at hgT hgE hO
 have hgD2 : jac m l s.at_ t.depot.toNat = x9 m l s.at_ dv := by unfold jac; rw [hdv]; simp
 rw [hgE, if_neg (by simp), hgT, hgD2] at hw
 rw [hgT, hgD2] at hwT
 refine WP.exit<|XB.hit<|Y.qr<|Y.F rfl<|Y.v (Ev.loadN [_, _] (j6 rfl) (j4 rfl) rfl ⟨H.ldL 2 rfl _ rfl, H.ldL 2 rfl _ rfl, trivial⟩)<|Y.a rfl<|Y.c2 129 rfl (jhd m s.at_ A l ca w (hz.sh H)) ?_
 rintro _ w ⟨TA, Lc, rfl, hOL, Hc⟩
 refine ⟨_, rfl, ?_⟩
 replace H := SH.call (Lv := []) (by rw [List.append_nil]; exact H) Hc
 clear Hc
 obtain ⟨hte, htl'⟩ := jcb hN.road hS.at_
 have htn := jau m l s.at_
 rw [htl'] at hOL
 have hvm : dv < m := by omega
 have hbd := jca hN.road hS.at_ hvm
 have hcd : k5 t = [I dv, I t.cap, I t.from_, I t.to_] := by unfold k5; rw [hdv]
 rw [hcd] at H
 have hvl : dv < (jaq m l s.at_).length := by rw [htl']; omega
 have htv : (jan m l s.at_)[dv]'(by omega) = x9 m l s.at_ dv := jbG (by omega)
 have hx0 := hOL.rd H (fun b hb => List.mem_append_right _ hb)
 obtain ⟨bT, oT, rfl, _⟩ := hx0 dv (by omega)
 have hxv := hx0.atK (show dv < (jan m l s.at_).length by omega)
 rw [htv] at hxv
 have hmul : 0 ≤ s.load * hd ∧ s.load * hd ≤ 115200 := by
  refine ⟨Int.mul_nonneg hSl.1 hh.1, ?_⟩
  calc s.load * hd ≤ 32 * hd := Int.mul_le_mul_of_nonneg_right (by omega) hh.1
   _ ≤ 115200 := by omega
 refine Y.T rfl<|Y.G rfl<|Y.G rfl<|Y.aS rfl<|Y.bz rfl<|Y.qq<|Y.sS rfl<|Y.W H 0 rfl<|Y.I rfl<|Y.v (Y.c (by assumption) rfl) ?_
 refine Y.lt rfl<|Y.z ?_
 refine WP.cond rfl (fun hc25 => ?_) (fun hc25 => ?_)
 ·refine Y.qr<|Y.aS rfl<|Y.b rfl<|Y.b rfl<|Y.bz rfl ?_
  refine WP.ret ⟨_, rfl, ?_⟩
  have hd0 : x9 m l s.at_ dv < 0 := by simpa using hc25
  exact hbad _ _ _ H (by rw [hw, jce, if_pos hd0]) (by decide)
 have hd0 : ¬ x9 m l s.at_ dv < 0 := by simpa using hc25
 refine Y.k<|Y.q<|WP.rstill mixed (by kernel_rfl) H ?_
 clear H; intro w hbw27 H
 refine Y.a rfl<|Y.sS rfl<|Y.W H 0 rfl<|Y.I rfl ?_
 replace hxv := cell_below hbw27 hxv
 refine Y.v (Y.c (by assumption) rfl) ?_
 refine Y.P rfl<|Y.a rfl<|Y.W H 2 rfl<|Y.v (Ev.mul rfl rfl (by unfold fits; omega))<|Y.P rfl<|Y.a rfl<|Y.sS rfl<|Y.W H 0 rfl<|Y.I rfl<|Y.v (Y.c (by assumption) rfl) ?_
 refine Y.P rfl<|Y.b rfl<|Y.b rfl<|OPS.nil_s<|Y.qq<|Y.a rfl<|Y.F rfl<|Y.W H 0 rfl<|Y.v (Ev.gtr rfl rfl)<|Y.z ?_
 refine WP.cond rfl (fun hc28 => ?_) (fun hc28 => ?_)
 ·refine Y.qr<|Y.aS rfl<|Y.b rfl<|Y.b rfl<|Y.bz rfl ?_
  refine WP.ret ⟨_, rfl, ?_⟩
  have hlt : t.to_ < s.now + x9 m l s.at_ dv + s.load * hd := by simpa using hc28
  exact hbad _ _ _ H (by rw [hw, jce, if_neg hd0, if_pos hlt]) (by decide)
 refine Y.k<|Y.qr<|Y.sS rfl<|Y.a rfl<|Y.a rfl<|Y.aS rfl<|Y.b rfl<|Y.b rfl<|Y.bz rfl ?_
 refine WP.ret ⟨_, rfl, ?_⟩
 have hlt : ¬ t.to_ < s.now + x9 m l s.at_ dv + s.load * hd := by simpa using hc28
 have hE0 : y7 m l ts ns hd q rn = 0 := by rw [hw, jce, if_neg hd0, if_neg hlt]
 have e1 : jgf m l ts ns hd q rn = goV (jac m l) hd ns rn (y3 t) := by rw [jgf, if_pos hE0, hwV]
 have e2 : jeQ m l ts ns hd q rn = s.now + x9 m l s.at_ dv + s.load * hd := by rw [jeQ, if_pos hE0, hwT]; rfl
 have e3 : jf3 m l ts ns hd q rn = s.driven + x9 m l s.at_ dv := by rw [jf3, if_pos hE0, hwT]; rfl
 have hvl2 : (goV (jac m l) hd ns rn (y3 t)).length = rn.length := jhI _ _ _ _ _
 rw [e1, e2, e3, hE0, hvl2]
 exact ⟨V, cv, Lo, rfl, hO, H.drop (Y.sr.trans Y.sl)⟩
end Go.Proofs.YtgcokllbophkkaaGreat
namespace Go.Proofs.YtgcokllbophkkaaGreat
open Go Go.W Go.RowKit
theorem r42Walk (n hd rt : Int) (A B C R : Option Addr) (l : List Edg) (ts : List q9) (ns : List z6) (rn : List Int) (ca cb cc cr : Nat) (w0 : World) (hz : ja3 w0 A l) (ht : k8 4 k5 w0 B ts) (hn : k8 2 j8 w0 C ns) (hr : k9 w0 R rn) (hrl : rn.length ≤ maxLen) :
  Calls Tryz.prog 61 #[.agg #[I n, .slice A l.length ca, .slice B ts.length cb, .slice C ns.length cc, I hd], .agg #[I rt, .slice R rn.length cr]] w0 fun e w' =>
   ∃ (V : Option Addr) (cv : Nat) (Lv : List Blk), e = .returned (.tuple #[.slice V (jgf n l ts ns hd rt rn).length cv, I (jeQ n l ts ns hd rt rn), I (y7 n l ts ns hd rt rn)]) ∧ OwnS V cv (jgf n l ts ns hd rt rn).length ((jgf n l ts ns hd rt rn).flatMap jbb) 127 4 Lv ∧ SH w0 [] w' Lv := by
 have H := SH.refl w0
 refine Calls.ofWP Tryz.func61 rfl Tryz.results61 Tryz.ntmps61 rfl<|Y.qr<|Y.bx (cA rfl) H ?_
 clear H; intro g2 w H
 refine Y.bx (cA rfl) H ?_
 clear H; intro g3 w H
 refine Y.aS rfl<|Y.b rfl<|Y.bz rfl<|Y.qr<|Y.O H 1 rfl<|Y.O H 0 rfl<|Y.c2 14 rfl (jgU n hd rt A B C R l ts ns rn ca cb cc cr w (hz.sh H) (ht.sh H) (hn.sh H) (hr.sh H) hrl) ?_
 rintro _ w ⟨V, cv, Lv, rfl, hO, Hc⟩
 refine ⟨_, rfl, ?_⟩
 replace H := SH.call (L1 := [_, _]) (Lv := []) H Hc
 clear Hc
 refine Y.T rfl<|Y.G rfl<|Y.G rfl<|Y.G rfl<|Y.G rfl<|Y.aS rfl<|Y.b rfl<|Y.b rfl<|Y.bz rfl<|Y.qr<|Y.sS rfl<|Y.a rfl<|Y.a rfl<|Y.aS rfl<|Y.b rfl<|Y.bz rfl ?_
 refine WP.ret ⟨_, rfl, ?_⟩
 exact ⟨V, cv, Lv, rfl, hO, H.drop (((List.Sublist.refl _).cons _).cons _)⟩
theorem jiV (n hd rt : Int) (A B C R : Option Addr) (l : List Edg) (ts : List q9) (ns : List z6) (rn : List Int) (ca cb cc cr : Nat) (w0 : World) (hz : ja3 w0 A l) (ht : k8 4 k5 w0 B ts) (hn : k8 2 j8 w0 C ns) (hr : k9 w0 R rn) (hrl : rn.length ≤ maxLen) :
  Calls Tryz.prog 38 #[.agg #[I n, .slice A l.length ca, .slice B ts.length cb, .slice C ns.length cc, I hd], .agg #[I rt, .slice R rn.length cr]] w0 fun e w' =>
   e = .returned (.tuple #[I (jf3 n l ts ns hd rt rn), I (y7 n l ts ns hd rt rn)]) ∧ Below w0.heap.size w0 w' := by
 have H := SH.refl w0
 refine Calls.ofWP Tryz.func38 rfl Tryz.results38 Tryz.ntmps38 rfl<|Y.qr<|Y.bx (cA rfl) H ?_
 clear H; intro g2 w H
 refine Y.bx (cA rfl) H ?_
 clear H; intro g3 w H
 refine Y.b rfl<|Y.bz rfl<|Y.qr<|Y.O H 1 rfl<|Y.O H 0 rfl<|Y.c2 13 rfl (jgU n hd rt A B C R l ts ns rn ca cb cc cr w (hz.sh H) (ht.sh H) (hn.sh H) (hr.sh H) hrl) ?_
 rintro _ w ⟨V, cv, Lv, rfl, hO, Hc⟩
 refine ⟨_, rfl, ?_⟩
 replace H := SH.call (L1 := [_, _]) (Lv := []) H Hc
 clear Hc
 refine Y.T rfl<|Y.G rfl<|Y.G rfl<|Y.G rfl<|Y.G rfl<|Y.aS rfl<|Y.b rfl<|Y.b rfl<|Y.bz rfl<|Y.qr<|Y.a rfl<|Y.a rfl<|Y.b rfl<|Y.bz rfl ?_
 refine WP.ret ⟨_, rfl, ?_⟩
 exact ⟨rfl, H.below⟩
end Go.Proofs.YtgcokllbophkkaaGreat
namespace Go.Proofs.YtgcokllbophkkaaGreat
open Go Go.W Go.RowKit
open Classical in
theorem jgo {α : Type} (x : α) (l : List α) : (l.map fun y => if y = x then 1 else 0).sum = List.count x l := by
 induction l with
 | nil => rfl
 | cons a l ih =>
  rw [List.map_cons, List.sum_cons, ih, List.count_cons]
  by_cases h : a = x <;> simp [h] <;> omega
open Classical in
theorem jbf {α : Type} {l l' : List α} (h : ∀ f : α → Nat, (l.map f).sum = (l'.map f).sum) : l.Perm l' :=
 List.perm_iff_count.2 fun x => by rw [← jgo, ← jgo]; exact h _
structure Rt where
 trk : Int
 nd : SlA Int
def jaT (r : Rt) : List Value := [I r.trk, .slice r.nd.A r.nd.l.length r.nd.cap]
theorem jeR (r : Rt) : (jaT r).length = 2 := rfl
structure jcs (w : World) (A : Option Addr) (rs : List Rt) : Prop where
 rows : k8 2 jaT w A rs
 ints : ∀ r ∈ rs, k9 w r.nd.A r.nd.l
 cap : ∀ r ∈ rs, r.nd.l.length ≤ r.nd.cap
 len : ∀ r ∈ rs, r.nd.l.length ≤ 1000
 few : rs.length ≤ 1000
theorem jcs.below {w w' : World} {A : Option Addr} {rs : List Rt} (h : jcs w A rs) (hb : Below w.heap.size w w') : jcs w' A rs :=
 ⟨h.rows.below hb, fun r hr => (h.ints r hr).below hb, h.cap, h.len, h.few⟩
theorem jcs.sh {w w' : World} {A : Option Addr} {rs : List Rt} {L : List Blk} (h : jcs w A rs) (H : SH w [] w' L) : jcs w' A rs := h.below H.below
def jbQ (rs : List Rt) : List Int := rs.flatMap (·.nd.l)
theorem jf8 : ∀ (rs : List Rt), (∀ r ∈ rs, r.nd.l.length ≤ 1000) → (jbQ rs).length ≤ 1000 * rs.length
 | [], _ => Nat.le_refl _
 | r :: rs, h => by
  have h1 := h r (by simp)
  have h2 := jf8 rs fun x hx => h x (List.mem_cons_of_mem _ hx)
  simp only [jbQ, List.flatMap_cons, List.length_append, List.length_cons] at h2 ⊢
  omega
noncomputable def jbs (n : Int) (l : List Edg) (ts : List q9) (ns : List z6) (hd : Int) : List Rt → Int
 | [] => 0
 | r :: rs => if y7 n l ts ns hd r.trk r.nd.l ≠ 0 then y7 n l ts ns hd r.trk r.nd.l else jbs n l ts ns hd rs
def jbm (k : Nat) (a : List Int) : Bool := decide (∀ i ∈ a, 0 ≤ i ∧ i < (k : Int)) && decide (a.length = k)
noncomputable def jab (n : Int) (l : List Edg) (ts : List q9) (ns : List z6) (hd : Int) (rs : List Rt) (left : List Int) : Int :=
 if q7 n l ts ns hd ≠ 0 then q7 n l ts ns hd else if jbs n l ts ns hd rs ≠ 0 then jbs n l ts ns hd rs
 else if (jaA (rs.map (·.trk)) || jaA (jbQ rs ++ left)) = true then 6 else if jbm ns.length (jbQ rs ++ left) = true then (if jbC left = true then 0 else 9) else 7
section
variable {n : Int} {l : List Edg} {ts : List q9} {ns : List z6} {hd : Int}
theorem jc9 {rs : List Rt} : ∀ {j : Nat}, j ≤ rs.length → (∀ i (hi : i < rs.length), i < j → y7 n l ts ns hd rs[i].trk rs[i].nd.l = 0) → jbs n l ts ns hd rs = jbs n l ts ns hd (rs.drop j)
 | 0, _, _ => rfl
 | j + 1, hj, h => by
  rw [jc9 (j := j) (by omega) (fun i hi hij => h i hi (by omega)), List.drop_eq_getElem_cons (show j < rs.length by omega), jbs]
  have := h j (by omega) (by omega)
  simp [this]
theorem jeV {rs : List Rt} (h : ∀ i (hi : i < rs.length), y7 n l ts ns hd rs[i].trk rs[i].nd.l = 0) : jbs n l ts ns hd rs = 0 := by
 rw [jc9 (Nat.le_refl _) (fun i hi _ => h i hi)]; simp [jbs]
theorem jfL {rs : List Rt} {j : Nat} (hj : j < rs.length) (h : ∀ i (hi : i < rs.length), i < j → y7 n l ts ns hd rs[i].trk rs[i].nd.l = 0) (he : y7 n l ts ns hd rs[j].trk rs[j].nd.l ≠ 0) : jbs n l ts ns hd rs = y7 n l ts ns hd rs[j].trk rs[j].nd.l := by
 rw [jc9 (by omega) h, List.drop_eq_getElem_cons hj, jbs, if_pos he]
theorem jeP {rt : Int} {rn : List Int} (h : y7 n l ts ns hd rt rn = 0) : q7 n l ts ns hd = 0 ∧ y4 ts ns rt rn = 0 := by
 unfold y7 at h
 split at h
 ·rename_i h1; exact absurd h h1
 ·rename_i h1
  split at h
  ·rename_i h2; exact absurd h h2
  ·rename_i h2; exact ⟨by simpa using h1, by simpa using h2⟩
end
theorem je9 {a b : List Int} (h : a.Nodup) (hs : ∀ x ∈ a, x ∈ b) : a.length ≤ b.length := List.Nodup.length_le_of_subset h hs
def upto (k : Nat) : List Int := (List.range k).map fun i : Nat => (i : Int)
theorem jdr (k : Nat) : (upto k).length = k := by simp [upto]
theorem jdZ {k : Nat} {x : Int} : x ∈ upto k ↔ 0 ≤ x ∧ x < (k : Int) := by
 unfold upto
 rw [List.mem_map]
 constructor
 ·rintro ⟨i, hi, rfl⟩; have := List.mem_range.1 hi; omega
 ·intro h; exact ⟨x.toNat, List.mem_range.2 (by omega), by omega⟩
theorem jez (k : Nat) : (upto k).Nodup := by
 unfold upto
 rw [List.nodup_iff_pairwise_ne, List.pairwise_map]
 exact List.Pairwise.imp (fun h he => h (by omega)) (List.nodup_iff_pairwise_ne.1 (List.nodup_range (n := k)))
theorem jeU {k : Nat} {a : List Int} (hn : a.Nodup) : jbm k a = true ↔ (∀ i : Nat, i < k → (i : Int) ∈ a) ∧ a.length ≤ k := by
 simp only [jbm, Bool.and_eq_true, decide_eq_true_eq]
 constructor
 ·rintro ⟨h1, h2⟩
  refine ⟨fun i hi => Classical.byContradiction fun hc => ?_, by omega⟩
  have h3 := je9 (a := (i : Int) :: a) (b := upto k) (List.nodup_cons.2 ⟨hc, hn⟩) (fun x hx => by
   rcases List.mem_cons.1 hx with rfl | hx
   ·exact jdZ.2 (by omega)
   ·exact jdZ.2 (h1 x hx))
  rw [jdr, List.length_cons] at h3; omega
 ·rintro ⟨h1, h2⟩
  have hsub : ∀ x ∈ upto k, x ∈ a := fun x hx => by
   have h3 := jdZ.1 hx
   obtain ⟨i, rfl⟩ := Int.eq_ofNat_of_zero_le h3.1
   exact h1 i (by omega)
  have h4 := je9 (jez k) hsub
  rw [jdr] at h4
  refine ⟨fun i hi => Classical.byContradiction fun hc => ?_, by omega⟩
  have h3 := je9 (a := i :: upto k) (b := a) (List.nodup_cons.2 ⟨fun h => hc (jdZ.1 h), jez k⟩) (fun x hx => by
   rcases List.mem_cons.1 hx with rfl | hx
   ·exact hi
   ·exact hsub x hx)
  rw [List.length_cons, jdr] at h3; omega
theorem jmY {k : Nat} {a b : List Int} (hn : (a ++ b).Nodup) (ha : ∀ i ∈ a, 0 ≤ i ∧ i < (k : Int)) : jbm k (a ++ b) = true ↔ (∀ i ∈ b, 0 ≤ i ∧ i < (k : Int)) ∧ k ≤ (a ++ b).length := by
 simp only [jbm, Bool.and_eq_true, decide_eq_true_eq]
 constructor
 ·rintro ⟨h1, h2⟩
  exact ⟨fun i hi => h1 i (List.mem_append_right _ hi), by omega⟩
 ·rintro ⟨h1, h2⟩
  have h3 : ∀ i ∈ a ++ b, 0 ≤ i ∧ i < (k : Int) := fun i hi => by
   rcases List.mem_append.1 hi with h | h
   ·exact ha i h
   ·exact h1 i h
  exact ⟨h3, Nat.le_antisymm (je8 hn h3) h2⟩
end Go.Proofs.YtgcokllbophkkaaGreat
namespace Go.Proofs.YtgcokllbophkkaaGreat
open Go Go.W Go.RowKit
theorem jiO (n hd rt : Int) (A B C R : Option Addr) (l : List Edg) (ts : List q9) (ns : List z6) (rn : List Int) (ca cb cc cr : Nat) (w0 : World) (hz : ja3 w0 A l) (ht : k8 4 k5 w0 B ts) (hn : k8 2 j8 w0 C ns) (hcc : ns.length ≤ cc) (hr : k9 w0 R rn) (hrl : rn.length ≤ maxLen) (hrc : rn.length ≤ cr) :
  Calls Tryz.prog 41 #[.agg #[I n, .slice A l.length ca, .slice B ts.length cb, .slice C ns.length cc, I hd], .agg #[I rt, .slice R rn.length cr]] w0 fun e w' =>
   ∃ (P V : Option Addr) (nv cv : Nat) (L : List Blk), e = .returned (.tuple #[.pointer P, .slice V nv cv, I (y7 n l ts ns hd rt rn)]) ∧ SH w0 [] w' L :=
 Calls.mono (jfi n hd rt A B C R l ts ns rn ca cb cc cr w0 hz ht hn hcc hr hrl hrc) fun _ _ h => by
  by_cases hE : y7 n l ts ns hd rt rn = 0
  ·obtain ⟨g, m, V, cv, Lv, _, h1, _, h2⟩ := h.2 hE
   exact ⟨_, V, _, cv, _, by rw [hE]; exact h1, h2⟩
  ·obtain ⟨h1, h2⟩ := h.1 hE
   exact ⟨none, none, 0, 0, _, h1, h2⟩
theorem jfX {α : Type} {enc : α → Value} {w : World} {A : Option Addr} {l : List α} (h : jaa enc w A l) : l.length = 0 ∨ ∃ b o, A = some ⟨b, o, none⟩ ∧ jak w b o (l.map enc) := by
 rcases Nat.eq_zero_or_pos l.length with h0 | h0
 ·exact .inl h0
 ·obtain ⟨b, o, rfl, _⟩ := h 0 h0
  exact .inr ⟨b, o, rfl, h.cells⟩
theorem _root_.Go.W.OwnS.le {A : Option Addr} {cap n el sz : Nat} {xs : List Value} {Lo : List Blk} (h : OwnS A cap n xs el sz Lo) : n ≤ cap := by
 rcases h.form with ⟨_, q, _, _⟩ | ⟨_, _, _, _, q, _, _⟩ <;> omega
theorem jeN (l : List Int) : ((l.map I).all (·.oneCell')) = true := by
 rw [List.all_eq_true]
 intro v hv
 obtain ⟨x, _, rfl⟩ := List.mem_map.1 hv
 rfl
theorem fz1 {a b c d : Blk} {Lt Lq : List Blk} : (a :: b :: ([c, d] ++ (Lt ++ Lq))).Perm (([a, b, c, d] ++ Lq) ++ Lt) := jbf fun f => by simp <;> omega
theorem fz2 {a b c d : Blk} {Lt Lq : List Blk} : (([a, b, c, d] ++ Lq) ++ Lt).Perm (([a, b, c, d] ++ Lt) ++ Lq) := jbf fun f => by simp <;> omega
theorem fz3 {c d : Blk} {Lt Lq : List Blk} : ([c, d] ++ (Lt ++ Lq)).Perm (([c, d] ++ Lt) ++ Lq) := jbf fun f => by simp <;> omega
theorem fz4 {a b c d : Blk} {Lt Lq : List Blk} : ([c, d] ++ (Lt ++ Lq)).Sublist (([a, b, c, d] ++ Lt) ++ Lq) := by
 rw [← List.append_assoc]
 exact List.Sublist.append (List.Sublist.append (((List.Sublist.refl [c, d]).cons b).cons a) (List.Sublist.refl Lt)) (List.Sublist.refl Lq)
theorem jf0 (n hd : Int) (A B C P F : Option Addr) (l : List Edg) (ts : List q9) (ns : List z6) (rs : List Rt) (left : List Int) (ca cb cc cp cf : Nat) (w0 : World) (hz : ja3 w0 A l) (ht : k8 4 k5 w0 B ts) (hn : k8 2 j8 w0 C ns) (hcc : ns.length ≤ cc)
  (hP : jcs w0 P rs) (hF : k9 w0 F left) (hfl : left.length ≤ 1000) (hnl : ns.length ≤ 1000) :
  Calls Tryz.prog 21 #[.agg #[I n, .slice A l.length ca, .slice B ts.length cb, .slice C ns.length cc, I hd], .agg #[.slice P rs.length cp, .slice F left.length cf]] w0 fun e w' =>
   e = .returned (I (jab n l ts ns hd rs left)) ∧ Below w0.heap.size w0 w' := by
 have H := SH.refl w0
 have hfew := hP.few
 refine Calls.ofWP Tryz.func21 rfl Tryz.results21 Tryz.ntmps21 rfl<|Y.qr<|Y.bx (cA rfl) H ?_
 clear H; intro g2 w H
 refine Y.bx (cA rfl) H ?_
 clear H; intro g3 w H
 refine Y.bz rfl<|Y.qq<|Y.O H 1 rfl<|Y.cl 15 rfl (jcA n hd A B C l ts ns ca cb cc w (hz.sh H) (ht.sh H) (hn.sh H) hcc) H ?_
 clear H; intro w H
 refine Y.bz rfl<|Y.qr<|Y.a rfl<|Y.V rfl<|Y.z ?_
 refine WP.cond rfl (fun hc2 => ?_) (fun hc2 => ?_)
 ·refine Y.qr<|Y.a rfl<|Y.bz rfl ?_
  refine WP.ret ⟨_, rfl, ?_⟩
  have h : q7 n l ts ns hd ≠ 0 := by simpa using hc2
  exact ⟨by rw [jab, if_pos h]; rfl, H.below⟩
 have h0 : q7 n l ts ns hd = 0 := by simpa using hc2
 refine Y.k<|Y.qr<|Y.aS rfl<|Y.aS rfl<|Y.z<|Y.qq<|Y.W H 0 rfl<|Y.E rfl<|Y.a rfl<|Y.z<|WP.block<|WP.loop [4, 6, 7, 9, 10, 11, 12, 22, 23, 24, 25, 26, 27, 28, 29, 30, 31, 32, 33, 34, 35, 36, 37, 38, 39, 40, 41, 42, 43, 44, 45] (fun k e w' => ∃ (j : Nat) (T Q : Option Addr) (ct cq : Nat) (Lt Lq : List Blk), j + k = rs.length ∧ e 22 = I j ∧ e 6 = .slice T j ct ∧ e 7 = .slice Q (jbQ (rs.take j)).length cq ∧ OwnS T ct j (((rs.take j).map (·.trk)).map I) 3 1 Lt ∧ OwnS Q cq (jbQ (rs.take j)).length ((jbQ (rs.take j)).map I) 3 1 Lq ∧ (∀ i (hi : i < rs.length), i < j → y7 n l ts ns hd rs[i].trk rs[i].nd.l = 0) ∧ SH w0 [] w' ([⟨g3, 34, [.slice P rs.length cp, .slice F left.length cf]⟩, ⟨g2, 28, [I n, .slice A l.length ca, .slice B ts.length cb, .slice C ns.length cc, I hd]⟩] ++ (Lt ++ Lq))) (rs.length) (⟨0, none, none, 0, 0, [], [], by omega, rfl, rfl, rfl, OwnS.nil, OwnS.nil, fun i _ h => absurd h (by omega), by rw [List.append_nil, List.append_nil]; exact H⟩) ?_
 clear H
 rintro k u w ⟨j, T, Q, ct, cq, Lt, Lq, hk, h22, h6, h7, hOT, hOQ, hall, H⟩
 refine WP.know (t := 22) h22 (WP.know (t := 6) h6 (WP.know (t := 7) h7 ?_))
 have hlenA : (jbQ (rs.take j)).length ≤ 1000000 := by
  have h1 := jf8 (rs.take j) (fun r hr => hP.len r (List.mem_of_mem_take hr))
  have h2 : (rs.take j).length ≤ j := List.length_take_le _ _
  omega
 refine Y.qr<|Y.lt rfl<|Y.z<|Y.q ?_
 refine WP.cond rfl (fun hc6 => ?_) (fun hc6 => ?_)
 ·have hlt : j < rs.length := by simpa using hc6
  obtain ⟨b, o, rfl, hc⟩ := hP.rows j hlt
  have hr := hP.ints rs[j] (List.getElem_mem hlt)
  have hrl := hP.len rs[j] (List.getElem_mem hlt)
  have hrc := hP.cap rs[j] (List.getElem_mem hlt)
  have hc' := k7 H hc
  have htk : rs.take (j + 1) = rs.take j ++ [rs[j]] := List.take_succ_eq_append_getElem hlt
  refine Y.k<|Y.q<|WP.block<|Y.qr<|Y.U rfl<|Y.v (Ev.loadN (jaT rs[j]) (j6 rfl) (j4 rfl) rfl hc')<|Y.al H rfl rfl ?_
  clear H; intro g9 w H
  refine Y.ss 0 H rfl (cA rfl) rfl ?_
  clear H; intro w H
  refine Y.z<|Y.qq<|Y.O H 2 rfl<|Y.O H 0 rfl<|Y.c2 29 rfl (jiO n hd rs[j].trk A B C rs[j].nd.A l ts ns rs[j].nd.l ca cb cc rs[j].nd.cap w (hz.sh H) (ht.sh H) (hn.sh H) hcc (hr.sh H) (by unfold maxLen; omega) hrc) ?_
  rintro _ w ⟨PP, V, nv, cv, L', rfl, Hc⟩
  refine ⟨_, rfl, ?_⟩
  replace H := SH.call (Lv := []) (by rw [List.append_nil]; exact H) Hc
  replace H := H.drop Y.sl
  clear Hc
  refine Y.T rfl<|Y.G rfl<|Y.G rfl<|Y.G rfl<|Y.v (Ev.asP rfl)<|Y.aS rfl<|Y.bz rfl<|Y.qr<|Y.a rfl<|Y.V rfl<|Y.z ?_
  refine WP.cond rfl (fun hc9 => ?_) (fun hc9 => ?_)
  ·refine Y.qr<|Y.a rfl<|Y.bz rfl ?_
   refine WP.ret ⟨_, rfl, ?_⟩
   have h : y7 n l ts ns hd rs[j].trk rs[j].nd.l ≠ 0 := by simpa using hc9
   have hE := jfL hlt hall h
   exact ⟨by rw [jab, if_neg (by simp [h0]), hE, if_pos h]; rfl, H.below⟩
  have h9 : y7 n l ts ns hd rs[j].trk rs[j].nd.l = 0 := by simpa using hc9
  refine Y.k<|Y.qr<|Y.sS rfl<|Y.W H 0 rfl<|OPS.buildSlice rfl rfl rfl rfl (jaJ rfl) H ?_
  clear H; intro g39 w H
  refine OPS.append (m := 1) (news := [I rs[j].trk]) (R := [⟨g39, 3, [I rs[j].trk]⟩, ⟨g9, 49, jaT rs[j]⟩, ⟨g3, 34, [.slice (some ⟨b, o, none⟩) rs.length cp, .slice F left.length cf]⟩, ⟨g2, 28, [I n, .slice A l.length ca, .slice B ts.length cb, .slice C ns.length cc, I hd]⟩] ++ Lq) rfl rfl rfl rfl rfl (z8 rfl) rfl rfl hOT rfl (y0 H 0 rfl) rfl (by omega) (by unfold maxLen; omega) H fz1 ?_
  clear H hOT; intro T ct Lt w hOT H
  refine Y.aS rfl<|Y.z<|Y.r<|Y.sS rfl<|Y.W H 1 rfl<|OPS.appendE (m := rs[j].nd.l.length) (news := rs[j].nd.l.map I) (R := [⟨g39, 3, [I rs[j].trk]⟩, ⟨g9, 49, jaT rs[j]⟩, ⟨g3, 34, [.slice (some ⟨b, o, none⟩) rs.length cp, .slice F left.length cf]⟩, ⟨g2, 28, [I n, .slice A l.length ca, .slice B ts.length cb, .slice C ns.length cc, I hd]⟩] ++ Lt) rfl rfl rfl rfl rfl (z8 rfl) rfl rfl hOQ (by simp) (jfX (hr.sh H)) (jeN _) (by omega) (by unfold maxLen; omega) H fz2 ?_
  clear H hOQ; intro Q cq Lq w hOQ H
  refine Y.aS rfl<|Y.z<|Y.r<|Y.P rfl<|Y.a rfl<|Y.z ?_
  have eA : jbQ (rs.take (j + 1)) = jbQ (rs.take j) ++ rs[j].nd.l := by rw [htk]; unfold jbQ; rw [List.flatMap_append, List.flatMap_cons, List.flatMap_nil, List.append_nil]
  have eL : (jbQ (rs.take (j + 1))).length = (jbQ (rs.take j)).length + rs[j].nd.l.length := by rw [eA, List.length_append]
  refine ⟨Y.ag, k - 1, by omega, j + 1, T, Q, ct, cq, Lt, Lq, by omega, rfl, rfl, (by rw [eL]; rfl), (by rw [htk, List.map_append, List.map_append]; exact hOT), (by rw [eL, eA, List.map_append]; exact hOQ), fun i hi hij => ?_, H.drop fz4⟩
  rcases Nat.lt_succ_iff_lt_or_eq.1 hij with h | rfl
  ·exact hall i hi h
  ·exact h9
 have hj : j = rs.length := by simp at hc6; omega
 subst hj
 rw [List.take_length] at hOT hOQ hlenA
 have hE := jeV (n := n) (l := l) (ts := ts) (ns := ns) (hd := hd) (fun i hi => hall i hi hi)
 have e0 : jab n l ts ns hd rs left = if (jaA (rs.map (·.trk)) || jaA (jbQ rs ++ left)) = true then 6 else if jbm ns.length (jbQ rs ++ left) = true then (if jbC left = true then 0 else 9) else 7 := by rw [jab, if_neg (by simp [h0]), if_neg (by simp [hE])]
 have hTl : (rs.map (·.trk)).length = rs.length := by simp
 rw [show (List.take rs.length rs) = rs from List.take_length]
 refine WP.exit<|XB.hit<|Y.qr<|Y.sS rfl<|Y.W H 0 rfl<|OPS.appendE (m := left.length) (news := left.map I) (R := [⟨g3, 34, [.slice P rs.length cp, .slice F left.length cf]⟩, ⟨g2, 28, [I n, .slice A l.length ca, .slice B ts.length cb, .slice C ns.length cc, I hd]⟩] ++ Lt) rfl rfl rfl rfl rfl (z8 rfl) rfl rfl hOQ (by simp) (jfX (hF.sh H)) (jeN _) (by omega) (by unfold maxLen; omega) H fz3 ?_
 clear H hOQ; intro Q cq Lq w hOQ H
 rw [← List.map_append, ← List.length_append] at hOQ
 have hLA : (jbQ rs ++ left).length ≤ 1001000 := by rw [List.length_append]; omega
 have hcq := hOQ.le
 have hct := hOT.le
 rw [← List.length_append]
 refine Y.aS rfl<|Y.z<|Y.qq<|Y.sS rfl ?_
 have hxT := (hOT.ones (R := [⟨g3, 34, [.slice P rs.length cp, .slice F left.length cf]⟩, ⟨g2, 28, [I n, .slice A l.length ca, .slice B ts.length cb, .slice C ns.length cc, I hd]⟩] ++ Lq) (H.perm (by exact jbf fun f => by simp <;> omega))).1
 have hxQ := (hOQ.ones H).1
 have hTw := jet T (rs.map (·.trk)) ct w hxT (by rw [hTl]; unfold maxLen; omega) (by omega)
 rw [hTl] at hTw
 refine Y.cl 51 rfl (hTw) H ?_
 clear H; intro w H
 refine Y.B rfl<|Y.g rfl rfl (fun hg => Ev.mvS rfl)<|OPS.gcall0 (f := 42) (jet Q (jbQ rs ++ left) cq w ((hOQ.ones H).1) (by unfold maxLen; omega) (by omega)) (fun _ _ h => h) rfl rfl rfl rfl rfl (fun hg => EvC.conv (EvC.func (z7 rfl)) (l1 (gvE hg rfl))) ?_
 intro w hbc; replace H := H.toBelow hbc
 refine Y.po rfl<|Y.z ?_
 refine WP.cond rfl (fun hc15 => ?_) (fun hc15 => ?_)
 ·refine Y.qr<|Y.bz rfl ?_
  refine WP.ret ⟨_, rfl, ?_⟩
  exact ⟨by rw [e0, if_pos hc15]; rfl, H.below⟩
 have h15 : jaA (rs.map (·.trk)) = false ∧ jaA (jbQ rs ++ left) = false := by simpa using hc15
 have hnd : (jbQ rs ++ left).Nodup := by simpa [jaA] using h15.2
 have e1 : jab n l ts ns hd rs left = if jbm ns.length (jbQ rs ++ left) = true then (if jbC left = true then 0 else 9) else 7 := by rw [e0, if_neg (by rw [h15.1, h15.2]; decide)]
 refine Y.k<|Y.qq<|Y.W H 1 rfl<|Y.E rfl<|Y.a rfl<|Y.z<|WP.block<|WP.loop [4, 13, 59, 60, 61, 62, 63, 64, 65, 66] (fun k e w' => ∃ j : Nat, j + k = ns.length ∧ e 59 = I j ∧ (∀ i : Nat, i < j → (i : Int) ∈ jbQ rs ++ left) ∧ SH w0 [] w' ([⟨g3, 34, [.slice P rs.length cp, .slice F left.length cf]⟩, ⟨g2, 28, [I n, .slice A l.length ca, .slice B ts.length cb, .slice C ns.length cc, I hd]⟩] ++ Lt ++ Lq)) (ns.length) (⟨0, by omega, rfl, (fun i h => absurd h (by omega)), H⟩) ?_
 clear H
 rintro k u w ⟨j, hk, h59, hin, H⟩
 refine WP.know (t := 59) h59 ?_
 have hxQ := (hOQ.ones H).1
 refine Y.qr<|Y.lt rfl<|Y.z<|Y.q ?_
 refine WP.cond rfl (fun hc18 => ?_) (fun hc18 => ?_)
 ·refine Y.k<|Y.q<|WP.block<|Y.qr<|Y.a rfl<|Y.bz rfl<|Y.qr<|Y.sS rfl<|Y.a rfl<|Y.cl 64 rfl (jdk Q (jbQ rs ++ left) cq j w hxQ (by unfold maxLen; omega)) H ?_
  clear H; intro w H
  refine Y.v (Ev.not rfl)<|Y.z ?_
  refine WP.cond rfl (fun hc20 => ?_) (fun hc20 => ?_)
  ·refine Y.qr<|Y.bz rfl ?_
   refine WP.ret ⟨_, rfl, ?_⟩
   have hni : ¬ (j : Int) ∈ jbQ rs ++ left := by simpa using hc20
   have hlt : j < ns.length := by simpa using hc18
   have hg : ¬ jbm ns.length (jbQ rs ++ left) = true := fun h => hni (((jeU hnd).1 h).1 j hlt)
   exact ⟨by rw [e1, if_neg hg]; rfl, H.below⟩
  refine Y.k<|Y.r<|Y.P rfl<|Y.a rfl<|Y.z ?_
  have hii : (j : Int) ∈ jbQ rs ++ left := of_decide_eq_true (by simpa only [Bool.not_eq_false'] using hc20)
  have hlt : j < ns.length := by simpa using hc18
  refine ⟨Y.ag, k - 1, by omega, j + 1, by omega, rfl, fun i hi => ?_, H⟩
  rcases Nat.lt_succ_iff_lt_or_eq.1 hi with h | rfl
  ·exact hin i h
  ·exact hii
 have hj : j = ns.length := by simp at hc18; omega
 subst hj
 refine WP.exit<|XB.hit<|Y.q<|WP.block<|Y.qr<|Y.sS rfl<|Y.E rfl<|Y.W H 1 rfl<|Y.E rfl<|Y.v (Ev.gtr rfl rfl)<|Y.aB rfl<|Y.z ?_
 refine WP.cond rfl (fun hc23 => ?_) (fun hc23 => ?_)
 ·refine Y.qr<|Y.bz rfl ?_
  refine WP.ret ⟨_, rfl, ?_⟩
  have hlt : ns.length < (jbQ rs ++ left).length := by simp at hc23; simp; omega
  have hg : ¬ jbm ns.length (jbQ rs ++ left) = true := fun h => absurd ((jeU hnd).1 h).2 (by omega)
  exact ⟨by rw [e1, if_neg hg]; rfl, H.below⟩
 have hlt : ¬ ns.length < (jbQ rs ++ left).length := by simp at hc23; simp; omega
 have hg : jbm ns.length (jbQ rs ++ left) = true := (jeU hnd).2 ⟨hin, by omega⟩
 rw [e1, if_pos hg]
 refine Y.qr<|Y.W H 0 rfl<|Y.cl 77 rfl (jiF F left cf w (hF.sh H) (by unfold maxLen; omega)) H ?_
 clear H; intro w H
 refine Y.v (Ev.not rfl)<|Y.aB rfl<|Y.z ?_
 refine WP.cond rfl (fun hc25 => ?_) (fun hc25 => ?_)
 ·refine Y.qr<|Y.bz rfl ?_
  refine WP.ret ⟨_, rfl, ?_⟩
  exact ⟨by rw [if_neg (by simpa using hc25)]; rfl, H.below⟩
 refine Y.k<|Y.qr<|Y.bz rfl ?_
 refine WP.ret ⟨_, rfl, ?_⟩
 exact ⟨by rw [if_pos (by simpa using hc25)]; rfl, H.below⟩
end Go.Proofs.YtgcokllbophkkaaGreat
