/-
 Walks (the kit's own words): slices.Values, slices.AppendSeq, slices.Collect.
-/
import Derived.RangeFuncBox
import Derived.RangeFuncLeaves
import Derived.Shelf.Abstract
import Derived.WalkKit
import Derived.OwnWalkIn
import Derived.TacticsInMore
import Derived.LoopNIn
import Derived.LoopIn
import Derived.Maps.AppendAt
import Derived.Test.YtgcokllbophkkaaGreatProg
import Derived.Test.YtgcokllbophkkaaGreatFacts
import Derived.Shelf.Sort.Plain
import Derived.Shelf.Slices.Reverse
import Derived.Ground.Names2Prog
import Derived.Shelf.Slices.CompactI
import Derived.Shelf.Slices.In.SortNone
import Derived.Test.YtgcokllbophkkaaGreatPtr
import Derived.Sort.OwnSortedInts
import Derived.Test.YtgcokllbophkkaaGreatT10
import Derived.Test.YtgcokllbophkkaaGreatFT18
set_option linter.all false
set_option maxHeartbeats 4000000
namespace Go.Proofs.YtgcokllbophkkaaGreat.It
open Go Go.RowKit Go.Shelf Go.Proofs
attribute [local go_sem] Oper.semAt_some
def jfv (zs : List Int) (k : Nat) : List Int := (List.range k).map fun j => zs[j]?.getD 0
theorem jje (zs : List Int) (k : Nat) : jfv zs (k + 1) = jfv zs k ++ [zs[k]?.getD 0] := by simp [jfv, List.range_succ]
theorem jgA (zs : List Int) (k : Nat) : (jfv zs k).length = k := by simp [jfv]
theorem jjI (zs : List Int) : jfv zs zs.length = zs := by
 apply List.ext_getElem
 ·simp [jfv]
 ·intro i h1 h2
  simp [jfv, h2]
set_option maxRecDepth 100000 in
theorem values1 (F : Fence) (n : Nat) (h7 : F.fn 128) (hro : F.round = none) (hn : 1 ≤ n) (l Bs n₀ b off len cap : Nat) (zs : List Int) (hreach : len * 8 ≤ 140737488351232) (hb : b < n₀) (J Jx : List Int → World → Prop)
  (hY : ∀ pre x W, J pre W → pre.length < len → YieldAt F (n - 1) Tryz.prog l #[.int .i64 x] W fun e W' =>
   (e = .returned (.bool true) ∧ J (pre ++ [x]) W' ∧ Below n₀ W W') ∨ (e = .returned (.bool false) ∧ Jx (pre ++ [x]) W'))
  (W : World) (hBs : W.cell? ⟨Bs, 0, none⟩ = some (.slice (some ⟨b, off, none⟩) len cap)) (hc : ∀ j, j < len → W.cell? ⟨b, off + j, none⟩ = some (.int .i64 (zs[j]?.getD 0))) (h0 : J [] W) :
  CallsIn F n Tryz.prog 128 #[.func (.yield l) #[] #[], .pointer (some ⟨Bs, 0, none⟩)] W fun e W' => (∃ v, e = .returned v) ∧
   (J (jfv zs len) W' ∨ (∃ pre, Jx pre W')) := by
 refine callsIn_of_wp Tryz.func128 rfl h7 ?_ hro
 simp only [Tryz.ntmps128, List.size_toArray, List.length_cons, List.length_nil, Nat.reduceAdd, Nat.reduceSub, Array.replicate_succ, Array.replicate_zero, List.push_toArray, List.append_toArray, List.nil_append, List.cons_append]
 gi_wp2
 gi_loopw [7] (fun i wr => ∃ k : Nat, k ≤ len ∧ i = .int .i64 k ∧ J (jfv zs k) wr ∧ Below n₀ W wr)
  (fun i _ => len - (intOf i).toNat)
 case atStart => exact ⟨0, Nat.zero_le _, rfl, h0, Below.refl _ _⟩
 case round =>
  obtain ⟨k, hk, rfl, hJs, hnx⟩ := hrel
  have hcx : k < len → wr.cell? ⟨b, off + k, none⟩ = some (.int .i64 (zs[k]?.getD 0)) := fun h => (hnx.cell (p := ⟨b, off + k, none⟩) hb).trans (hc k h)
  by_cases hlt : k < len
  ·obtain ⟨fn, tmps, assign, body, hy, hR⟩ := hY _ (zs[k]?.getD 0) wr hJs (by rw [jgA]; exact hlt)
   have hcx' := hcx hlt
   gi_wp2
   refine hR.mono ?_
   rintro e W3 (⟨rfl, hJ3, hk3⟩ | ⟨rfl, hJx3⟩)
   ·gi_wp2
    go_roundw
    case rel => exact ⟨k + 1, by omega, by simp, by rw [jje]; exact hJ3, hnx.trans hk3⟩
    case measure => simp [intOf]; omega
   ·gi_wp2
    refine bodyPost_ret (results_none rfl _ _ _) rfl ?_
    exact ⟨⟨_, rfl⟩, .inr ⟨_, hJx3⟩⟩
  ·obtain rfl : k = len := by omega
   gi_wp2
   go_end0
   exact ⟨⟨_, rfl⟩, .inl hJs⟩
set_option maxRecDepth 100000 in
theorem values0 (F : Fence) (n : Nat) (h7 : F.fn 128) (hro : F.round = none) (l Bs : Nat) (A : Option Addr) (cap : Nat) (J : List Int → World → Prop) (W : World) (hBs : W.cell? ⟨Bs, 0, none⟩ = some (.slice A 0 cap)) (h0 : J [] W) :
  CallsIn F n Tryz.prog 128 #[.func (.yield l) #[] #[], .pointer (some ⟨Bs, 0, none⟩)] W fun e W' => (∃ v, e = .returned v) ∧ J [] W' := by
 refine callsIn_of_wp Tryz.func128 rfl h7 ?_ hro
 simp only [Tryz.ntmps128, List.size_toArray, List.length_cons, List.length_nil, Nat.reduceAdd, Nat.reduceSub, Array.replicate_succ, Array.replicate_zero, List.push_toArray, List.append_toArray, List.nil_append, List.cons_append]
 gi_wp2
 gi_loopw [7] (fun i wr => i = .int .i64 0 ∧ J [] wr) (fun _ _ => 0)
 case atStart => exact ⟨rfl, h0⟩
 case round =>
  obtain ⟨rfl, hJs⟩ := hrel
  gi_wp2
  go_end0
  exact ⟨⟨_, rfl⟩, hJs⟩
def Ints (n₀ : Nat) (W : World) (A : Option Addr) (zs : List Int) : Prop :=
 zs = [] ∨ ∃ b off, A = some ⟨b, off, none⟩ ∧ b < n₀ ∧ ∀ j, j < zs.length → W.cell? ⟨b, off + j, none⟩ = some (.int .i64 (zs[j]?.getD 0))
theorem Ints.below {n₀ : Nat} {A B : World} (h : Below n₀ A B) {sv : Option Addr} {zs : List Int} : Ints n₀ A sv zs → Ints n₀ B sv zs
 | .inl e => .inl e
 | .inr ⟨b, off, e, hb, hc⟩ => .inr ⟨b, off, e, hb, fun j hj => (h.cell (p := ⟨b, off + j, none⟩) hb).trans (hc j hj)⟩
theorem values_stops (F : Fence) (n : Nat) (h7 : F.fn 128) (hro : F.round = none) (hn : 1 ≤ n) (Bs n₀ : Nat) (A : Option Addr) (cap : Nat) (zs : List Int) (hreach : zs.length * 8 ≤ 140737488351232) (w : World) (hBs : Bs < w.heap.size) (hn₀ : n₀ ≤ w.heap.size)
  (hc : w.cell? ⟨Bs, 0, none⟩ = some (.slice A zs.length cap)) (hI : Ints n₀ w A zs) :
  SeqStopsK F n Tryz.prog 128 #[.pointer (some ⟨Bs, 0, none⟩)] (fun x : Int => #[Value.int .i64 x]) (Below n₀) (fun ys => ys = zs) (fun _ => True) zs.length w := fun l J Jx W hW _ _ hY h0 => by
 have hc' := (hW.cell (p := ⟨Bs, 0, none⟩) hBs).trans hc
 rcases hI.below (hW.mono hn₀) with rfl | ⟨b, off, rfl, hb, hcs⟩
 ·exact (values0 F n h7 hro l Bs A cap J W hc' h0).mono fun e W' ⟨he, hj⟩ => ⟨he, .inl ⟨_, rfl, hj⟩⟩
 ·refine (values1 F n h7 hro hn l Bs n₀ b off zs.length cap zs hreach hb J Jx hY W hc' hcs h0).mono ?_
  rintro e W' ⟨he, hj | ⟨pre, hj⟩⟩
  ·exact ⟨he, .inl ⟨_, jjI zs, hj⟩⟩
  ·exact ⟨he, .inr ⟨_, trivial, hj⟩⟩
theorem inf3 : (Tryz.prog.info? 3).map (fun i => (i.zero, i.size, i.bytes)) = some (some (.int .i64 0), 1, 8) := by kernel_rfl
set_option maxRecDepth 100000 in
theorem appendSeq (n : Nat) (hn : 3 ≤ n) (Bs : Nat) (A : Option Addr) (cap : Nat) (zs : List Int) (hlen : zs.length ≤ maxLen) (hbytes : zs.length * 8 ≤ 140737488351232) (w : World) (hBs : Bs < w.heap.size)
  (hc : w.cell? ⟨Bs, 0, none⟩ = some (.slice A zs.length cap)) (hI : Ints w.heap.size w A zs) :
  CallsIn Fence.wide n Tryz.prog 143 #[.slice none 0 0, .func (.func 128) #[] #[.pointer (some ⟨Bs, 0, none⟩)]] w fun e W' => ∃ v, e = .returned v ∧ W'.ownsRow w.heap.size 3 1 v zs.length (zs.map (Value.int .i64)) ∧ (v = .slice none 0 0 ↔ zs = []) ∧ Below w.heap.size w W' := by
 have h1 : 1 ≤ n := by omega
 obtain ⟨i0, hi, hz0, hz1, hz2⟩ := info_parts inf3
 refine callsIn_of_wp_marks Tryz.func143 rfl trivial ?_ rfl
 simp only [Tryz.ntmps143, List.size_toArray, List.length_cons, List.length_nil, Nat.reduceAdd, Nat.reduceSub, Array.replicate_succ, Array.replicate_zero, List.push_toArray, List.append_toArray, List.nil_append, List.cons_append]
 gi_wp2
 have bO := Boxed.new w 32 (.slice none 0 0)
 have hB0 : Below w.heap.size w (w.alloc (.cells #[.slice none 0 0] 32)) := (Below.refl _ w).alloc (Nat.le_refl _) _
 refine wpIn_rangeFunc_ownG rfl h1 (gf := 128) (lb := #[.pointer (some ⟨Bs, 0, none⟩)]) rfl trivial (enters_of Tryz.func128 (by kernel_rfl) rfl)
  (values_stops Fence.wide (n - 1) trivial rfl (by omega) Bs w.heap.size A cap zs hbytes _ (by simp; omega) (by simp) ((hB0.cell (p := ⟨Bs, 0, none⟩) hBs).trans hc) (hI.below hB0)) belowK_t (belowK_b (by simp)) (Below.refl _ _) (fun _ => rfl)
  (fun pre W => (∃ v, Boxed W w.heap.size 32 v ∧ W.ownsRow w.heap.size 3 1 v pre.length (pre.map (Value.int .i64)) ∧ (v = .slice none 0 0 ↔ pre = [])) ∧ Below w.heap.size w W)
  (fun _ _ _ => False)
  (OwnFrom.and (Own.from (holdsRow_own w.heap.size w.heap.size 32 3 1 (fun pre : List Int => pre.length) (fun pre => pre.map (Value.int .i64)) (fun pre v => v = .slice none 0 0 ↔ pre = [])) _) (ownFrom_below (Nat.le_refl _) (by simp)))
  (fun _ _ _ _ _ hs _ _ => hs)
  ⟨⟨_, bO, World.ownsRow_nil _ _ _ _, by simp⟩, hB0⟩
  (fun x => { tmps := #[.slice none 0 0, .func (.func 128) #[] #[.pointer (some ⟨Bs, 0, none⟩)], .pointer (some ⟨w.heap.size, 0, none⟩), undef, .slice none 0 0, .int .i64 x, .func (.func 128) #[] #[.pointer (some ⟨Bs, 0, none⟩)], .int .i64 x, undef, undef, undef, undef, undef], defers := [] }) ?assign ?body ?done ?stop
 case assign =>
  intro l x W K hK
  gi_wp2
  exact hK
 case body =>
  rintro l pre x W ⟨⟨v, hv, hrow, hnil⟩, hB⟩ hlt
  have hc := hv.cell
  gi_wp2_with (gi_at_builtin; refine wpListIn_append_own _ rfl _ _ 32 rfl w.heap.size 3 i0 (.int .i64 0) 1 8 Tryz.underlying32 hi hz0 hz1 hz2 rfl (by decide) _ _ _ rfl (hrow.alloc _) ⟨W.heap.size, 0, none⟩ 1 1 [.int .i64 x] rfl rfl (cell_one_new _ _ _) (by simp [Value.oneCell']) (by omega) (by omega) (by have := hB.size; simp; omega) ?_; intro v' w1 hown' hgrow _; obtain ⟨g', cap', rfl⟩ := ownsRow_succ hown'; obtain ⟨hv1, hv2, hr2, hk2, hb2⟩ := hv.appended (by decide) hrow hB.size (Nat.le_refl _) hown' hgrow; have hc1 := hv1.cell; have hf1 := hv1.frozen)
  exact ⟨hk2.from _, hb2, ⟨_, hv2, by simpa using hr2, by simp⟩, hB.trans hb2⟩
 case done =>
  rintro D ys W hD rfl ⟨⟨v, hv, hrow, hnil⟩, hB⟩ hK
  have hc := hv.cell
  gi_wp2
  refine ⟨by simp, .inl ⟨_, _, rfl, run_takeDeferred hK, ?_⟩⟩
  exact ⟨_, results_tmp rfl _ _ _, v, rfl, ownsRow_putObj hrow _ hK rfl, hnil, hB.trans (belowK_b (w := w) (Nat.le_refl _) W D _ _ (by simp at hD; omega) hK rfl rfl)⟩
 case stop =>
  rintro D c pre W _ _ h _
  exact h.elim
end Go.Proofs.YtgcokllbophkkaaGreat.It
namespace Go.Proofs.YtgcokllbophkkaaGreat
open Go Go.W Go.RowKit
def lexB : List Int → List Int → Bool
 | [], [] => false
 | [], _ :: _ => true
 | _ :: _, [] => false
 | x :: a, y :: b => if x < y then true else if y < x then false else lexB a b
theorem jf2 : ∀ a, lexB a a = false
 | [] => rfl
 | x :: a => by rw [lexB, if_neg (Int.lt_irrefl _), if_neg (Int.lt_irrefl _), jf2 a]
theorem jea : ∀ {a b : List Int}, lexB a b = false → lexB b a = false → a = b
 | [], [], _, _ => rfl
 | [], _ :: _, h, _ => by cases h
 | _ :: _, [], _, h => by cases h
 | x :: a, y :: b, h1, h2 => by
  rw [lexB] at h1 h2
  by_cases h3 : x < y
  ·rw [if_pos h3] at h1; cases h1
  ·by_cases h4 : y < x
   ·rw [if_pos h4] at h2; cases h2
   ·rw [if_neg h3, if_neg h4] at h1
    rw [if_neg h4, if_neg h3] at h2
    rw [jea h1 h2, show x = y by omega]
theorem jgJ : ∀ {a b : List Int}, lexB a b = true → lexB b a = false
 | [], [], h => by cases h
 | [], _ :: _, _ => rfl
 | _ :: _, [], h => by cases h
 | x :: a, y :: b, h => by
  rw [lexB] at h ⊢
  by_cases h3 : x < y
  ·rw [if_neg (show ¬ y < x by omega), if_pos h3]
  ·by_cases h4 : y < x
   ·rw [if_neg h3, if_pos h4] at h; cases h
   ·rw [if_neg h3, if_neg h4] at h
    rw [if_neg h4, if_neg h3]; exact jgJ h
theorem jfN : ∀ {a b c : List Int}, lexB a b = true → lexB b c = true → lexB a c = true
 | [], [], _, h, _ => by cases h
 | [], _ :: _, [], _, h => by cases h
 | [], _ :: _, _ :: _, _, _ => rfl
 | _ :: _, [], _, h, _ => by cases h
 | _ :: _, _ :: _, [], _, h => by cases h
 | x :: a, y :: b, z :: c, h1, h2 => by
  rw [lexB] at h1 h2 ⊢
  by_cases h3 : x < y
  ·by_cases h4 : z < y
   ·rw [if_neg (by omega), if_pos h4] at h2; cases h2
   ·rw [if_pos (by omega)]
  ·by_cases h5 : y < x
   ·rw [if_neg h3, if_pos h5] at h1; cases h1
   ·have hxy : x = y := by omega
    subst hxy
    rw [if_neg h3, if_neg h5] at h1
    by_cases h4 : x < z
    ·rw [if_pos h4]
    ·rw [if_neg h4] at h2 ⊢
     by_cases h6 : z < x
     ·rw [if_pos h6] at h2; cases h2
     ·rw [if_neg h6] at h2 ⊢
      exact jfN h1 h2
section
variable (m d : List Int → Int)
def jcq (a b : List Int) : Prop := m a < m b ∨ (m a = m b ∧ (d b < d a ∨ (d b = d a ∧ lexB b a = true)))
theorem je4 (a : List Int) : ¬ jcq m d a a := by
 rintro (h | ⟨_, h | ⟨_, h⟩⟩)
 ·omega
 ·omega
 ·rw [jf2] at h; cases h
theorem jfc {a b c : List Int} (h1 : jcq m d a b) (h2 : jcq m d b c) : jcq m d a c := by
 unfold jcq at *
 rcases h1 with h1 | ⟨h1, h1' | ⟨h1', h1''⟩⟩ <;> rcases h2 with h2 | ⟨h2, h2' | ⟨h2', h2''⟩⟩
 ·left; omega
 ·left; omega
 ·left; omega
 ·left; omega
 ·right; exact ⟨by omega, .inl (by omega)⟩
 ·right; exact ⟨by omega, .inl (by omega)⟩
 ·left; omega
 ·right; exact ⟨by omega, .inl (by omega)⟩
 ·right; exact ⟨by omega, .inr ⟨by omega, jfN h2'' h1''⟩⟩
theorem jgu {a b : List Int} (h1 : ¬ jcq m d a b) (h2 : ¬ jcq m d b a) : a = b := by
 unfold jcq at *
 have e1 : m a = m b := by
  rcases Int.lt_trichotomy (m a) (m b) with h | h | h
  ·exact absurd (.inl h) h1
  ·exact h
  ·exact absurd (.inl h) h2
 have e2 : d a = d b := by
  rcases Int.lt_trichotomy (d a) (d b) with h | h | h
  ·exact absurd (.inr ⟨e1.symm, .inl h⟩) h2
  ·exact h
  ·exact absurd (.inr ⟨e1, .inl h⟩) h1
 refine jea ?_ ?_
 ·cases h : lexB a b with
  | false => rfl
  | true => exact absurd (.inr ⟨e1.symm, .inr ⟨e2, h⟩⟩) h2
 ·cases h : lexB b a with
  | false => rfl
  | true => exact absurd (.inr ⟨e1, .inr ⟨e2.symm, h⟩⟩) h1
instance (a b : List Int) : Decidable (jcq m d a b) := by unfold jcq; exact inferInstance
def jaQ (C : List Int → Prop) : Option (List Int) → Prop
 | none => ∀ o, ¬ C o
 | some x => C x ∧ ∀ o, C o → ¬ jcq m d x o
variable {m d}
theorem jaQ.unique {C : List Int → Prop} : ∀ {x y : Option (List Int)}, jaQ m d C x → jaQ m d C y → x = y
 | none, none, _, _ => rfl
 | none, some y, h, h' => absurd h'.1 (h y)
 | some x, none, h, h' => absurd h.1 (h' x)
 | some x, some y, h, h' => by rw [jgu m d (h.2 y h'.1) (h'.2 x h.1)]
theorem jaQ.congr {C C' : List Int → Prop} (hc : ∀ o, C o ↔ C' o) : ∀ {x : Option (List Int)}, jaQ m d C x → jaQ m d C' x
 | none, h => fun o ho => h o ((hc o).2 ho)
 | some x, h => ⟨(hc x).1 h.1, fun o ho => h.2 o ((hc o).2 ho)⟩
variable (m d)
def bet : Option (List Int) → Option (List Int) → Option (List Int)
 | none, y => y
 | some x, none => some x
 | some x, some y => if jcq m d x y then some y else some x
variable {m d}
theorem jaQ.union {C C' : List Int → Prop} : ∀ {x y : Option (List Int)}, jaQ m d C x → jaQ m d C' y → jaQ m d (fun o => C o ∨ C' o) (bet m d x y)
 | none, none, h, h' => fun o ho => ho.elim (h o) (h' o)
 | none, some y, h, h' => ⟨.inr h'.1, fun o ho => ho.elim (fun hc => absurd hc (h o)) (h'.2 o)⟩
 | some x, none, h, h' => ⟨.inl h.1, fun o ho => ho.elim (h.2 o) (fun hc => absurd hc (h' o))⟩
 | some x, some y, h, h' => by
  show jaQ m d _ (if jcq m d x y then some y else some x)
  by_cases hw : jcq m d x y
  ·rw [if_pos hw]
   exact ⟨.inr h'.1, fun o ho hyo => ho.elim (fun hc => h.2 o hc (jfc m d hw hyo)) (fun hc => h'.2 o hc hyo)⟩
  ·rw [if_neg hw]
   refine ⟨.inl h.1, fun o ho hxo => ho.elim (fun hc => h.2 o hc hxo) (fun hc => ?_)⟩
   by_cases hyo : jcq m d o y
   ·exact hw (jfc m d hxo hyo)
   ·have : y = o := jgu m d (h'.2 o hc) hyo
    subst this; exact hw hxo
theorem jaQ.one (o : List Int) : jaQ m d (fun x => x = o) (some o) := ⟨rfl, fun x hx => by subst hx; exact je4 m d x⟩
theorem jaQ.zero : jaQ m d (fun _ => False) none := fun _ h => h
end
theorem jcZ {x : Int} {a b : List Int} : lexB (x :: a) (x :: b) = lexB a b := by rw [lexB, if_neg (Int.lt_irrefl _), if_neg (Int.lt_irrefl _)]
theorem jic : ∀ {p a b : List Int}, lexB (p ++ a) (p ++ b) = lexB a b
 | [], _, _ => rfl
 | x :: p, a, b => by rw [List.cons_append, List.cons_append, jcZ, jic]
theorem jge : ∀ {s t : List Int}, s.Pairwise (fun x y => y < x) → t.Perm s → lexB s t = false
 | [], t, _, hp => by rw [hp.eq_nil]; rfl
 | a :: s, t, hs, hp => by
  rw [List.pairwise_cons] at hs
  cases t with
  | nil => rfl
  | cons b t =>
   have hb : b ∈ a :: s := hp.mem_iff.1 List.mem_cons_self
   have hba : b ≤ a := by
    rcases List.mem_cons.1 hb with rfl | hb
    ·exact Int.le_refl _
    ·have := hs.1 b hb; omega
   by_cases h : b = a
   ·subst h
    rw [jcZ]
    exact jge hs.2 (List.perm_cons b |>.1 hp)
   ·rw [lexB, if_neg (by omega), if_pos (by omega)]
theorem jhh : ∀ {s t : List Int}, s.Pairwise (fun x y => x < y) → t.Perm s → lexB t s = false
 | [], t, _, hp => by rw [hp.eq_nil]; rfl
 | a :: s, t, hs, hp => by
  rw [List.pairwise_cons] at hs
  cases t with
  | nil => exact absurd hp.length_eq (by simp)
  | cons b t =>
   have hb : b ∈ a :: s := hp.mem_iff.1 List.mem_cons_self
   have hba : a ≤ b := by
    rcases List.mem_cons.1 hb with rfl | hb
    ·exact Int.le_refl _
    ·have := hs.1 b hb; omega
   by_cases h : b = a
   ·subst h
    rw [jcZ]
    exact jhh hs.2 (List.perm_cons b |>.1 hp)
   ·rw [lexB, if_neg (by omega), if_pos (by omega)]
theorem next_ok {p big small : List Int} {x y : Int} (hd : (big ++ y :: small).Pairwise fun a b => b < a) (hxy : x < y) (hsm : ∀ z ∈ small, z < x) :
  lexB (p ++ x :: (big ++ y :: small)) (p ++ y :: (big ++ x :: small).reverse) = true ∧
  (p ++ y :: (big ++ x :: small).reverse).Perm (p ++ x :: (big ++ y :: small)) ∧
  ∀ o : List Int, o.Perm (p ++ x :: (big ++ y :: small)) → lexB (p ++ x :: (big ++ y :: small)) o = true → o = p ++ y :: (big ++ x :: small).reverse ∨ lexB (p ++ y :: (big ++ x :: small).reverse) o = true := by
 have hd0 := hd
 rw [List.pairwise_append, List.pairwise_cons] at hd
 obtain ⟨d1, ⟨d2, d3⟩, d4⟩ := hd
 have hbig : ∀ z ∈ big, y < z := fun z hz => d4 z hz y List.mem_cons_self
 have hasc : ((big ++ x :: small).reverse).Pairwise fun a b => a < b := by
  rw [List.pairwise_reverse, List.pairwise_append, List.pairwise_cons]
  refine ⟨d1, ⟨hsm, d3⟩, fun z hz w hw => ?_⟩
  have := hbig z hz
  rcases List.mem_cons.1 hw with rfl | hw
  ·omega
  ·have := hsm w hw; omega
 have hperm : (y :: (big ++ x :: small).reverse).Perm (x :: (big ++ y :: small)) := by
  refine ((List.reverse_perm _).cons y).trans ?_
  refine (List.Perm.cons y List.perm_middle).trans ?_
  refine (List.Perm.swap x y _).trans ?_
  exact List.Perm.cons x List.perm_middle.symm
 refine ⟨by rw [jic, lexB, if_pos hxy], hperm.append_left p, ?_⟩
 induction p with
 | nil =>
  intro o ho hlt
  simp only [List.nil_append] at ho hlt ⊢
  cases o with
  | nil => cases hlt
  | cons z t =>
   have hz : z ∈ x :: (big ++ y :: small) := ho.mem_iff.1 List.mem_cons_self
   rw [lexB] at hlt
   by_cases h1 : x < z
   ·skip
    have hzy : y ≤ z := by
     rcases List.mem_cons.1 hz with rfl | hz
     ·omega
     ·rcases List.mem_append.1 hz with hz | hz
      ·have := hbig z hz; omega
      ·rcases List.mem_cons.1 hz with rfl | hz
       ·exact Int.le_refl _
       ·have := hsm z hz; omega
    by_cases h2 : z = y
    ·subst h2
     have hp : t.Perm (big ++ x :: small).reverse := by
      have := ho.trans hperm.symm
      exact (List.perm_cons z).1 this
     have hm := jhh hasc hp
     cases hx : lexB (big ++ x :: small).reverse t with
     | false => left; rw [jea hm hx]
     | true => right; rw [jcZ]; exact hx
    ·right; rw [lexB, if_pos (by omega)]
   ·rw [if_neg h1] at hlt
    by_cases h2 : z < x
    ·rw [if_pos h2] at hlt; cases hlt
    ·rw [if_neg h2] at hlt
     have : z = x := by omega
     subst this
     rw [jge hd0 ((List.perm_cons z).1 ho)] at hlt; cases hlt
 | cons a p ih =>
  intro o ho hlt
  simp only [List.cons_append] at ho hlt ⊢
  cases o with
  | nil => cases hlt
  | cons z t =>
   rw [lexB] at hlt
   by_cases h1 : a < z
   ·right; rw [lexB, if_pos h1]
   ·rw [if_neg h1] at hlt
    by_cases h2 : z < a
    ·rw [if_pos h2] at hlt; cases hlt
    ·rw [if_neg h2] at hlt
     have : z = a := by omega
     subst this
     rcases ih t ((List.perm_cons z).1 ho) hlt with h | h
     ·left; rw [h]
     ·right; rw [jcZ]; exact h
def jcm : List Int → Nat → List Int
 | [], _ => []
 | x :: l, s => (if s % 2 = 1 then [x] else []) ++ jcm l (s / 2)
theorem jfS : ∀ (l : List Int) (x : Int) (s : Nat), jcm (l ++ [x]) s = jcm l s ++ if (s / 2 ^ l.length) % 2 = 1 then [x] else []
 | [], x, s => by simp [jcm]
 | a :: l, x, s => by
  rw [List.cons_append, jcm, jcm, jfS l x (s / 2), List.append_assoc, Nat.div_div_eq_div_mul, List.length_cons, Nat.pow_succ, Nat.mul_comm 2]
theorem jgz (p : Int → Bool) : ∀ l : List Int, ∃ s, s < 2 ^ l.length ∧ jcm l s = l.filter p
 | [] => ⟨0, by simp, rfl⟩
 | x :: l => by
  obtain ⟨s, h1, h2⟩ := jgz p l
  cases hp : p x with
  | true => exact ⟨2 * s + 1, by rw [List.length_cons, Nat.pow_succ]; omega, by rw [jcm, if_pos (by omega), show (2 * s + 1) / 2 = s by omega, h2, List.filter_cons_of_pos hp]; rfl⟩
  | false => exact ⟨2 * s, by rw [List.length_cons, Nat.pow_succ]; omega, by rw [jcm, if_neg (by omega), show 2 * s / 2 = s by omega, h2, List.filter_cons_of_neg (by rw [hp]; simp)]; rfl⟩
theorem jdP : ∀ (l : List Int) (s : Nat), (jcm l s).Sublist l
 | [], _ => List.Sublist.refl _
 | x :: l, s => by
  rw [jcm]
  have := jdP l (s / 2)
  split
  ·exact this.cons_cons x
  ·exact this.cons x
theorem part_of {l o : List Int} (hl : l.Nodup) (ho : o.Nodup) (hs : ∀ x ∈ o, x ∈ l) : ∃ s, s < 2 ^ l.length ∧ o.Perm (jcm l s) := by
 obtain ⟨s, h1, h2⟩ := jgz (fun x => decide (x ∈ o)) l
 refine ⟨s, h1, ?_⟩
 rw [h2]
 refine (List.perm_ext_iff_of_nodup ho (hl.filter _)).2 fun x => ?_
 rw [List.mem_filter]
 simp
 exact hs x
end Go.Proofs.YtgcokllbophkkaaGreat
namespace Go.Proofs.YtgcokllbophkkaaGreat
open Go Go.W Go.RowKit
def swp (l : List Int) (i k : Nat) : List Int := (l.set i (l.getD k 0)).set k (l.getD i 0)
theorem jhX (l : List Int) (i k : Nat) : (swp l i k).length = l.length := by simp [swp]
def jd9 (l : List Int) (i k : Nat) : List Int := (swp l i k).take (i + 1) ++ ((swp l i k).drop (i + 1)).reverse
theorem jj3 (l : List Int) (i k : Nat) : (jd9 l i k).length = l.length := by
 unfold jd9
 rw [List.length_append, List.length_reverse, ← List.length_append, List.take_append_drop, jhX]
theorem jem {l : List Int} {k : Nat} (h : k < l.length) : l.getD k 0 = l[k] := by rw [List.getD_eq_getElem?_getD, List.getElem?_eq_getElem h]; rfl
theorem jja {p big small : List Int} {x y : Int} : jd9 (p ++ x :: (big ++ y :: small)) p.length (p.length + 1 + big.length) = p ++ y :: (big ++ x :: small).reverse := by
 have e1 : (p ++ x :: (big ++ y :: small)).getD p.length 0 = x := by rw [List.getD_eq_getElem?_getD, List.getElem?_append_right (Nat.le_refl _)]; simp
 have e2 : (p ++ x :: (big ++ y :: small)).getD (p.length + 1 + big.length) 0 = y := by
  rw [List.getD_eq_getElem?_getD, List.getElem?_append_right (by omega), show p.length + 1 + big.length - p.length = big.length + 1 by omega, List.getElem?_cons_succ, List.getElem?_append_right (Nat.le_refl _)]; simp
 have e3 : swp (p ++ x :: (big ++ y :: small)) p.length (p.length + 1 + big.length) = p ++ y :: (big ++ x :: small) := by
  unfold swp
  rw [e1, e2, List.set_append_right _ _ (Nat.le_refl _), Nat.sub_self, List.set_cons_zero, List.set_append_right _ _ (by omega), show p.length + 1 + big.length - p.length = big.length + 1 by omega, List.set_cons_succ, List.set_append_right _ _ (Nat.le_refl _), Nat.sub_self, List.set_cons_zero]
 unfold jd9
 rw [e3, show p ++ y :: (big ++ x :: small) = (p ++ [y]) ++ (big ++ x :: small) by simp, List.take_left' (by simp), List.drop_left' (by simp)]
 simp
def jnm (l : List Int) (j : Nat) : Prop := ∀ a b, j ≤ a → a < b → b < l.length → l.getD b 0 < l.getD a 0
theorem jl3 {l : List Int} {i k : Nat} (hik : i < k) (hk : k < l.length) : ∃ p big small, l = p ++ l.getD i 0 :: (big ++ l.getD k 0 :: small) ∧ p.length = i ∧ p.length + 1 + big.length = k ∧ (big ++ l.getD k 0 :: small) = l.drop (i + 1) ∧ small = l.drop (k + 1) := by
 refine ⟨l.take i, (l.drop (i + 1)).take (k - (i + 1)), l.drop (k + 1), ?_, by simp; omega, by simp; omega, ?_, rfl⟩
 ·rw [jem hk, jem (show i < l.length by omega)]
  have h1 : (l.drop (i + 1)).take (k - (i + 1)) ++ l[k] :: l.drop (k + 1) = l.drop (i + 1) := by
   have := List.take_append_drop (k - (i + 1)) (l.drop (i + 1))
   rw [List.drop_drop, show i + 1 + (k - (i + 1)) = k by omega, List.drop_eq_getElem_cons hk] at this
   exact this
  rw [h1, ← List.drop_eq_getElem_cons (show i < l.length by omega), List.take_append_drop]
 ·rw [jem hk]
  have := List.take_append_drop (k - (i + 1)) (l.drop (i + 1))
  rw [List.drop_drop, show i + 1 + (k - (i + 1)) = k by omega, List.drop_eq_getElem_cons hk] at this
  exact this
theorem jgr {l : List Int} {j : Nat} (h : jnm l j) : (l.drop j).Pairwise fun a b => b < a := by
 rw [List.pairwise_iff_getElem]
 intro a b ha hb hab
 rw [List.getElem_drop, List.getElem_drop]
 have := h (j + a) (j + b) (by omega) (by omega) (by simp at hb; omega)
 rw [jem (by simp at hb; omega), jem (by simp at ha; omega)] at this
 exact this
theorem step_ok {l : List Int} {i k : Nat} (hik : i < k) (hk : k < l.length) (hf : jnm l (i + 1)) (hlt : l.getD i 0 < l.getD k 0) (hno : ∀ k', k < k' → k' < l.length → ¬ l.getD i 0 < l.getD k' 0) (hnd : l.Nodup) :
  lexB l (jd9 l i k) = true ∧ (jd9 l i k).Perm l ∧ ∀ o : List Int, o.Perm l → lexB l o = true → o = jd9 l i k ∨ lexB (jd9 l i k) o = true := by
 obtain ⟨p, big, small, h1, h2, h3, h4, h5⟩ := jl3 hik hk
 have hd := jgr hf
 rw [← h4] at hd
 have hsm : ∀ z ∈ small, z < l.getD i 0 := fun z hz => by
  rw [h5] at hz
  obtain ⟨q, hq, rfl⟩ := List.mem_iff_getElem.1 hz
  simp at hq
  rw [List.getElem_drop]
  have := hno (k + 1 + q) (by omega) (by omega)
  rw [jem (show k + 1 + q < l.length by omega)] at this
  have hne : l[k + 1 + q] ≠ l.getD i 0 := by
   rw [jem (show i < l.length by omega)]
   intro he
   have := (List.getElem_inj hnd).1 he
   omega
  omega
 have hn := next_ok (p := p) (x := l.getD i 0) hd hlt hsm
 have e : jd9 l i k = p ++ l.getD k 0 :: (big ++ l.getD i 0 :: small).reverse := by
  have := jja (p := p) (big := big) (small := small) (x := l.getD i 0) (y := l.getD k 0)
  rw [h3, ← h1, h2] at this
  exact this
 rw [e]
 rw [← h1] at hn
 exact hn
theorem jlc {l : List Int} {i : Nat} (hf : jnm l (i + 1)) (hno : ∀ k, i < k → k < l.length → ¬ l.getD i 0 < l.getD k 0) (hnd : l.Nodup) : jnm l i := fun a b h1 h2 h3 => by
 by_cases h : a = i
 ·subst h
  have := hno b h2 h3
  have hne : l.getD b 0 ≠ l.getD a 0 := by
   rw [jem h3, jem (show a < l.length by omega)]
   intro he
   have := (List.getElem_inj hnd).1 he
   omega
  omega
 ·exact hf a b (by omega) h2 h3
structure Met (l0 cur : List Int) (V : List (List Int)) : Prop where
 perm : cur.Perm l0
 sub : ∀ o ∈ V, o.Perm l0
 all : ∀ o : List Int, o.Perm l0 → lexB o cur = true → o ∈ V
theorem Met.start {l0 cur : List Int} (hp : cur.Perm l0) (hs : cur.Pairwise fun x y => x < y) : Met l0 cur [] :=
 ⟨hp, fun o h => (List.not_mem_nil h).elim, fun o ho hl => by rw [jhh hs (ho.trans hp.symm)] at hl; cases hl⟩
theorem Met.step {l0 cur : List Int} {V : List (List Int)} (h : Met l0 cur V) {i k : Nat} (hik : i < k) (hk : k < cur.length) (hf : jnm cur (i + 1)) (hlt : cur.getD i 0 < cur.getD k 0) (hno : ∀ k', k < k' → k' < cur.length → ¬ cur.getD i 0 < cur.getD k' 0) (hnd : cur.Nodup) :
  Met l0 (jd9 cur i k) (V ++ [cur]) := by
 obtain ⟨h1, h2, h3⟩ := step_ok hik hk hf hlt hno hnd
 refine ⟨h2.trans h.perm, fun o ho => ?_, fun o ho hl => ?_⟩
 ·rcases List.mem_append.1 ho with ho | ho
  ·exact h.sub o ho
  ·rw [List.mem_singleton.1 ho]; exact h.perm
 ·cases hc : lexB o cur with
  | true => exact List.mem_append_left _ (h.all o ho hc)
  | false =>
   cases hc2 : lexB cur o with
   | false => rw [jea hc hc2]; simp
   | true =>
    exfalso
    rcases h3 o (ho.trans h.perm.symm) hc2 with h4 | h4
    ·rw [h4, jf2] at hl; cases hl
    ·rw [jgJ h4] at hl; cases hl
theorem Met.done {l0 cur : List Int} {V : List (List Int)} (h : Met l0 cur V) (hf : jnm cur 0) : ∀ o, o ∈ V ++ [cur] ↔ o.Perm l0 := fun o => by
 constructor
 ·intro ho
  rcases List.mem_append.1 ho with ho | ho
  ·exact h.sub o ho
  ·rw [List.mem_singleton.1 ho]; exact h.perm
 ·intro ho
  have hm := jge (by have := jgr hf; rwa [List.drop_zero] at this) (ho.trans h.perm.symm)
  cases hc : lexB o cur with
  | true => exact List.mem_append_left _ (h.all o ho hc)
  | false => rw [jea hc hm]; simp
def jli : List Int → Nat
 | [] => 0
 | x :: l => x.toNat * 64 ^ l.length + jli l
theorem jhB : ∀ {l : List Int}, (∀ x ∈ l, 0 ≤ x ∧ x < 64) → jli l < 64 ^ l.length
 | [], _ => by simp [jli]
 | x :: l, h => by
  have ih := jhB (l := l) fun y hy => h y (List.mem_cons_of_mem _ hy)
  have hx := h x List.mem_cons_self
  rw [jli, List.length_cons, Nat.pow_succ, Nat.mul_comm (64 ^ l.length)]
  have : x.toNat ≤ 63 := by omega
  have := Nat.mul_le_mul_right (64 ^ l.length) this
  omega
theorem jit : ∀ {a b : List Int}, a.length = b.length → (∀ x ∈ a, 0 ≤ x ∧ x < 64) → (∀ x ∈ b, 0 ≤ x ∧ x < 64) → lexB a b = true → jli a < jli b
 | [], [], _, _, _, h => by cases h
 | [], _ :: _, h, _, _, _ => by cases h
 | _ :: _, [], h, _, _, _ => by cases h
 | x :: a, y :: b, hl, ha, hb, h => by
  have hl' : a.length = b.length := by simpa using hl
  have hx := ha x List.mem_cons_self
  have hy := hb y List.mem_cons_self
  have ea := jhB (l := a) fun z hz => ha z (List.mem_cons_of_mem _ hz)
  rw [lexB] at h
  rw [jli, jli, hl']
  by_cases h1 : x < y
  ·have h2 : x.toNat + 1 ≤ y.toNat := by omega
   have h3 := Nat.mul_le_mul_right (64 ^ b.length) h2
   rw [Nat.add_mul, Nat.one_mul] at h3
   rw [hl'] at ea
   omega
  ·rw [if_neg h1] at h
   by_cases h2 : y < x
   ·rw [if_pos h2] at h; cases h
   ·rw [if_neg h2] at h
    have : x = y := by omega
    subst this
    have := jit hl' (fun z hz => ha z (List.mem_cons_of_mem _ hz)) (fun z hz => hb z (List.mem_cons_of_mem _ hz)) h
    omega
end Go.Proofs.YtgcokllbophkkaaGreat
namespace Go.Proofs.YtgcokllbophkkaaGreat
open Go Go.W Go.RowKit
section
variable (m d : List Int → Int) (F : List Int → Bool)
def jnv (s : Option (List Int)) (o : List Int) : Option (List Int) := if F o = true then bet m d s (some o) else s
variable {m d F}
theorem jaQ.vis {C : List Int → Prop} {s : Option (List Int)} (h : jaQ m d C s) (o : List Int) : jaQ m d (fun x => C x ∨ (x = o ∧ F o = true)) (jnv m d F s o) := by
 unfold jnv
 by_cases hf : F o = true
 ·rw [if_pos hf]
  exact (h.union (jaQ.one o)).congr fun x => by simp [hf]
 ·rw [if_neg hf]
  exact h.congr fun x => by simp [hf]
theorem jaQ.fold : ∀ {V : List (List Int)} {C : List Int → Prop} {s : Option (List Int)}, jaQ m d C s → jaQ m d (fun x => C x ∨ (x ∈ V ∧ F x = true)) (V.foldl (jnv m d F) s)
 | [], C, s, h => h.congr fun x => by simp
 | o :: V, C, s, h => by
  refine (jaQ.fold (V := V) (h.vis (F := F) o)).congr fun x => ?_
  simp only [List.mem_cons]
  constructor
  ·rintro ((h | ⟨h, h2⟩) | h)
   ·exact .inl h
   ·exact .inr ⟨.inl h, by rw [h]; exact h2⟩
   ·exact .inr ⟨.inr h.1, h.2⟩
  ·rintro (h | ⟨h | h, h2⟩)
   ·exact .inl (.inl h)
   ·exact .inl (.inr ⟨h, by rw [← h]; exact h2⟩)
   ·exact .inr ⟨h, h2⟩
end
end Go.Proofs.YtgcokllbophkkaaGreat
namespace Go.Proofs
open Go.Shelf
def Tryz.lays189_ren : Go.Shelf.Ren := ⟨fun | 189 => 127 | 125 => 145 | 257 => 144 | 128 => 162 | 129 => 163 | 294 => 154 | 295 => 155 | 296 => 156 | 297 => 157 | 298 => 158 | 299 => 159 | 216 => 77 | 300 => 160 | 301 => 161 | 328 => 166 | 329 => 167 | 330 => 168 | 331 => 169 | 332 => 170 | 215 => 98 | 343 => 171 | n => n, fun | 28 => 32 | 3 => 3 | 46 => 218 | 0 => 0 | 51 => 236 | 53 => 238 | 4 => 4 | 183 => 229 | 182 => 228 | 131 => 233 | 5 => 5 | 9 => 9 | 218 => 239 | 222 => 243 | 228 => 245 | 229 => 195 | n => n, fun | n => n⟩
theorem Tryz.lays189 : Go.Proofs.Lays.n189 Tryz.prog Tryz.lays189_ren := {
 mixed := by kernel_rfl
 f125 := Tryz.func145.trans (congrArg some (by kernel_rfl))
 f128 := Tryz.func162.trans (congrArg some (by kernel_rfl))
 f129 := Tryz.func163.trans (congrArg some (by kernel_rfl))
 f189 := Tryz.func127.trans (congrArg some (by kernel_rfl))
 f215 := Tryz.func98.trans (congrArg some (by kernel_rfl))
 f216 := Tryz.func77.trans (congrArg some (by kernel_rfl))
 f257 := Tryz.func144.trans (congrArg some (by kernel_rfl))
 f294 := Tryz.func154.trans (congrArg some (by kernel_rfl))
 f295 := Tryz.func155.trans (congrArg some (by kernel_rfl))
 f296 := Tryz.func156.trans (congrArg some (by kernel_rfl))
 f297 := Tryz.func157.trans (congrArg some (by kernel_rfl))
 f298 := Tryz.func158.trans (congrArg some (by kernel_rfl))
 f299 := Tryz.func159.trans (congrArg some (by kernel_rfl))
 f300 := Tryz.func160.trans (congrArg some (by kernel_rfl))
 f301 := Tryz.func161.trans (congrArg some (by kernel_rfl))
 f328 := Tryz.func166.trans (congrArg some (by kernel_rfl))
 f329 := Tryz.func167.trans (congrArg some (by kernel_rfl))
 f330 := Tryz.func168.trans (congrArg some (by kernel_rfl))
 f331 := Tryz.func169.trans (congrArg some (by kernel_rfl))
 f332 := Tryz.func170.trans (congrArg some (by kernel_rfl))
 f343 := Tryz.func171.trans (congrArg some (by kernel_rfl))
 t0 := Tryz.underlying0
 a0 := Tryz.isAgg0
 z0 := Tryz.sizeOf0
 v0 := Tryz.zeroValue0
 t3 := Tryz.underlying3
 a3 := Tryz.isAgg3
 z3 := Tryz.sizeOf3
 v3 := Tryz.zeroValue3
 t4 := Tryz.underlying4
 a4 := Tryz.isAgg4
 z4 := Tryz.sizeOf4
 v4 := Tryz.zeroValue4
 t5 := Tryz.underlying5
 a5 := Tryz.isAgg5
 z5 := Tryz.sizeOf5
 v5 := Tryz.zeroValue5
 t9 := Tryz.underlying9
 a9 := Tryz.isAgg9
 z9 := Tryz.sizeOf9
 v9 := Tryz.zeroValue9
 t28 := Tryz.underlying32
 a28 := Tryz.isAgg32
 z28 := Tryz.sizeOf32
 v28 := Tryz.zeroValue32
 t46 := Tryz.underlying218
 a46 := Tryz.isAgg218
 z46 := Tryz.sizeOf218
 v46 := Tryz.zeroValue218
 t51 := Tryz.underlying236
 a51 := Tryz.isAgg236
 z51 := Tryz.sizeOf236
 v51 := Tryz.zeroValue236
 t53 := Tryz.underlying238
 a53 := Tryz.isAgg238
 z53 := Tryz.sizeOf238
 v53 := Tryz.zeroValue238
 t131 := Tryz.underlying233
 a131 := Tryz.isAgg233
 z131 := Tryz.sizeOf233
 v131 := Tryz.zeroValue233
 t182 := Tryz.underlying228
 a182 := Tryz.isAgg228
 z182 := Tryz.sizeOf228
 v182 := Tryz.zeroValue228
 t183 := Tryz.underlying229
 a183 := Tryz.isAgg229
 z183 := Tryz.sizeOf229
 v183 := Tryz.zeroValue229
 t218 := Tryz.underlying239
 a218 := Tryz.isAgg239
 z218 := Tryz.sizeOf239
 v218 := Tryz.zeroValue239
 t222 := Tryz.underlying243
 a222 := Tryz.isAgg243
 z222 := Tryz.sizeOf243
 v222 := Tryz.zeroValue243
 t228 := Tryz.underlying245
 a228 := Tryz.isAgg245
 z228 := Tryz.sizeOf245
 v228 := Tryz.zeroValue245
 t229 := Tryz.underlying195
 a229 := Tryz.isAgg195
 z229 := Tryz.sizeOf195
 v229 := Tryz.zeroValue195 }
def Tryz.lays112_ren : Go.Shelf.Ren := ⟨fun | 112 => 129 | n => n, fun | 28 => 32 | 3 => 3 | 4 => 4 | 0 => 0 | n => n, fun | n => n⟩
theorem Tryz.lays112 : Go.Proofs.Lays.n112 Tryz.prog Tryz.lays112_ren := {
 mixed := by kernel_rfl
 f112 := Tryz.func129.trans (congrArg some (by kernel_rfl))
 t0 := Tryz.underlying0
 a0 := Tryz.isAgg0
 z0 := Tryz.sizeOf0
 v0 := Tryz.zeroValue0
 t3 := Tryz.underlying3
 a3 := Tryz.isAgg3
 z3 := Tryz.sizeOf3
 v3 := Tryz.zeroValue3
 t4 := Tryz.underlying4
 a4 := Tryz.isAgg4
 z4 := Tryz.sizeOf4
 v4 := Tryz.zeroValue4
 t28 := Tryz.underlying32
 a28 := Tryz.isAgg32
 z28 := Tryz.sizeOf32
 v28 := Tryz.zeroValue32 }
def Tryz.laysNm220_ren : Go.Shelf.Ren := ⟨fun | 20 => 104 | n => n, fun | 22 => 32 | 3 => 3 | 4 => 4 | 0 => 0 | n => n, fun | n => n⟩
theorem Tryz.laysNm220 : Go.Proofs.Lays2.n20 Tryz.prog Tryz.laysNm220_ren := {
 mixed := by kernel_rfl
 f20 := Tryz.func104.trans (congrArg some (by kernel_rfl))
 t0 := Tryz.underlying0
 a0 := Tryz.isAgg0
 z0 := Tryz.sizeOf0
 v0 := Tryz.zeroValue0
 t3 := Tryz.underlying3
 a3 := Tryz.isAgg3
 z3 := Tryz.sizeOf3
 v3 := Tryz.zeroValue3
 t4 := Tryz.underlying4
 a4 := Tryz.isAgg4
 z4 := Tryz.sizeOf4
 v4 := Tryz.zeroValue4
 t22 := Tryz.underlying32
 a22 := Tryz.isAgg32
 z22 := Tryz.sizeOf32
 v22 := Tryz.zeroValue32
 i3 := by kernel_rfl }
open Go.Sort Go.RowKit in
theorem Tryz.slices_Sort_int (blk off cap : Nat) (zs : List Int) (w : World) (hH : Holds (Value.int .i64) w blk off zs.toArray) (hblk : blk < w.heap.size) (hsz : zs.length < 4611686018427387904) :
  Calls Tryz.prog 127 #[.slice (some ⟨blk, off, none⟩) zs.length cap] w fun e w' =>
   e = .returned (.tuple #[]) ∧ ∃ n os, w' = grow (putRow (Value.int .i64) (Sort.ahead w n) blk off (zs.mergeSort fun x y => decide (x ≤ y)).toArray) os := Any.slices_Sort_int Tryz.lays189 blk off cap zs w hH hblk hsz
open Go.RowKit Go.Lib Go.Sort in
theorem Tryz.slices_Reverse_int (blk off cap : Nat) (zs : List Int) (w : World) (hH : Holds (Value.int .i64) w blk off zs.toArray) (hsz : zs.length ≤ 9223372036854775807) :
  Calls Tryz.prog 129 #[.slice (some ⟨blk, off, none⟩) zs.length cap] w fun e w' => e = .returned (.tuple #[]) ∧ ∃ n, w' = putRow (Value.int .i64) (Sort.ahead w n) blk off zs.reverse.toArray := Any.slices_Reverse_int Tryz.lays112 blk off cap zs w hH hsz
open Go.RowKit Go.Lib Go.Sort in
theorem Tryz.slices_Compact_int_empty (a : Option Addr) (cap : Nat) (w : World) :
  Calls Tryz.prog 104 #[.slice a 0 cap] w fun e w' => e = .returned (.slice a 0 cap) ∧ w' = w := Any.slices_Compact_int_empty Tryz.laysNm220 a cap w
open Go.RowKit Go.Sort in
theorem Tryz.slices_Sort_int_none (p : Option Addr) (cap : Nat) (w : World) :
  Calls Tryz.prog 127 #[.slice p 0 cap] w fun e w' => e = .returned (.tuple #[]) ∧ w' = w := Any.slices_Sort_int_none Tryz.lays189 p cap w
end Go.Proofs
namespace Go.Proofs.YtgcokllbophkkaaGreat
open Go Go.W Go.RowKit
def jd3 (zs : List Int) : Nat → List Int
 | 0 => []
 | i + 1 => jd3 zs i ++ if 0 < i ∧ zs.getD i 0 = zs.getD (i - 1) 0 then [] else [zs.getD i 0]
theorem jeh {zs : List Int} : ∀ {i : Nat}, i ≤ zs.length → (∀ j, 0 < j → j < i → zs.getD j 0 ≠ zs.getD (j - 1) 0) → jd3 zs i = zs.take i
 | 0, _, _ => by simp [jd3]
 | i + 1, hi, h => by
  rw [jd3, jeh (by omega) fun j h0 h1 => h j h0 (by omega), if_neg (fun hh => h i hh.1 (by omega) hh.2), List.take_succ_eq_append_getElem (show i < zs.length by omega), List.getD_eq_getElem?_getD, List.getElem?_eq_getElem (by omega)]; rfl
theorem jk2 {l : List Int} {k : Nat} (h : k < l.length) : l.getD k 0 = l[k] := by rw [List.getD_eq_getElem?_getD, List.getElem?_eq_getElem h]; rfl
theorem jk5 (g : Nat) (zs : List Int) (sp : List Value) (cap : Nat) (w0 : World) (H0 : SH w0 [g] w0 [⟨g, 3, zs.map I ++ sp⟩]) (hl : zs.length ≤ 100000) (hcap : zs.length ≤ cap) :
  Calls Tryz.prog 104 #[.slice (some ⟨g, 0, none⟩) zs.length cap] w0 fun e w' => ∃ sp', e = .returned (.slice (some ⟨g, 0, none⟩) (jd3 zs zs.length).length cap) ∧ SH w0 [g] w' [⟨g, 3, (jd3 zs zs.length).map I ++ sp'⟩] := by
 have H := H0
 have hcl : ∀ (cur : List Int) (w : World), SH w0 [g] w [⟨g, 3, cur.map I ++ sp⟩] → ∀ k (h : k < cur.length), w.cell? ⟨g, 0 + k, none⟩ = some (I cur[k]) := fun cur w H k hk => by
  obtain ⟨b, o, e, hc⟩ := jaa.own (enc := I) (l := cur) (post := sp) H 0 rfl rfl k hk
  cases e; exact hc
 refine Calls.ofWP Tryz.func104 rfl Tryz.results104 Tryz.ntmps104 rfl<|Y.qr<|Y.aS rfl<|Y.z<|Y.qq<|Y.sS rfl<|Y.E rfl<|Y.lt rfl<|Y.z ?_
 refine WP.cond rfl (fun hc1 => ?_) (fun hc1 => ?_)
 ·refine Y.qr<|Y.sS rfl<|Y.aS rfl<|Y.z ?_
  refine WP.ret ⟨_, rfl, ?_⟩
  have h : zs.length < 2 := by simp at hc1; omega
  have hid : jd3 zs zs.length = zs := by rw [jeh (Nat.le_refl _) (fun j h0 h1 => by omega), List.take_length]
  rw [hid]
  exact ⟨sp, rfl, H⟩
 have h2 : 2 ≤ zs.length := by simp at hc1; omega
 refine Y.k<|Y.qq<|Y.bz rfl<|WP.block<|WP.loop [2, 3, 4, 5, 10, 11, 12, 13, 14, 15, 16, 17, 18, 19, 20, 21, 22, 23, 24, 25, 26, 27, 28, 29, 30, 31, 32, 33, 34, 35, 36, 37, 38, 39, 40, 41, 42, 43, 44, 45, 46, 47, 48, 49, 50, 51, 52, 53, 54, 55, 56, 57, 58, 59] (fun k e w' => ∃ (q : Nat), q + 1 + k = zs.length ∧ e 3 = I ((q + 1 : Nat) : Int) ∧ (∀ j, 0 < j → j < q + 1 → zs.getD j 0 ≠ zs.getD (j - 1) 0) ∧ SH w0 [g] w' [⟨g, 3, zs.map I ++ sp⟩]) ((zs.length - 1)) (⟨0, by omega, rfl, fun _ _ _ => by omega, H⟩) ?_
 clear H
 rintro k u w ⟨q, hk, h3, hall, H⟩
 refine WP.know (t := 3) h3<|Y.qq<|Y.a rfl<|Y.sS rfl<|Y.E rfl<|Y.lt rfl<|Y.z ?_
 refine WP.cond rfl (fun hc4 => ?_) (fun hc4 => ?_)
 ·have hlt : q + 1 < zs.length := by simp at hc4; omega
  have hgq := jk2 (show q < zs.length by omega)
  have hgq1 := jk2 hlt
  refine Y.k<|Y.q<|WP.block<|Y.q<|WP.rstill mixed (by kernel_rfl) H ?_
  clear H; intro w hbw6 H
  have hx := hcl zs w H (q + 1) hlt
  have hy := hcl zs w H q (by omega)
  refine Y.sS rfl<|Y.a rfl<|Y.I rfl<|Y.v (Y.c (by assumption) rfl) ?_
  refine Y.sS rfl<|Y.a rfl<|Y.Q rfl ?_
  rw [show (((q + 1 : Nat) : Int) - 1) = (q : Int) by omega]
  refine Y.I rfl<|Y.v (Y.c (by assumption) rfl) ?_
  refine Y.v (Ev.eql rfl rfl)<|OPS.nil_s ?_
  refine WP.cond rfl (fun hc6 => ?_) (fun hc6 => ?_)
  ·have heq : zs[q + 1] = zs[q] := by simpa using hc6
   refine Y.qr<|Y.sS rfl<|Y.a rfl<|Y.v (Ev.sliceFrom2 (j := q + 1) (x7 rfl) (j4 rfl) rfl rfl rfl (by omega) (by omega))<|Y.aS rfl<|Y.z<|Y.qq<|Y.bz rfl<|WP.block<|WP.loop [3, 5, 29, 30, 31, 32, 33, 34, 35, 36, 37, 38, 39, 40, 41, 42, 43, 44, 45, 46, 47, 48, 49, 50, 51, 52, 53] (fun k e w' => ∃ (m i : Nat) (cur : List Int), i + 1 + k = zs.length ∧ e 5 = I ((i - q : Nat) : Int) ∧ q + 1 ≤ i ∧ m ≤ i ∧ e 3 = I m ∧ m = (jd3 zs (i + 1)).length ∧ cur.length = zs.length ∧ cur.take m = jd3 zs (i + 1) ∧ cur.drop i = zs.drop i ∧ SH w0 [g] w' [⟨g, 3, cur.map I ++ sp⟩]) ((zs.length - 1 - (q + 1))) (⟨q + 1, q + 1, zs, by omega, by rw [show q + 1 - q = 1 by omega]; rfl, by omega, by omega, rfl, by rw [jd3, if_pos ⟨by omega, by rw [hgq1, show q + 1 - 1 = q by omega, hgq]; exact heq⟩, List.append_nil, jeh (by omega) hall]; simp; omega, rfl, by rw [jd3, if_pos ⟨by omega, by rw [hgq1, show q + 1 - 1 = q by omega, hgq]; exact heq⟩, List.append_nil, jeh (by omega) hall], rfl, H⟩) ?_
   clear H
   rintro k2 u2 w ⟨m, i, cur, hk2, h5, hqi, hmi, h3', hml, hcl2, htk, hdr, H⟩
   refine WP.know (t := 5) h5 (WP.know (t := 3) h3' ?_)
   refine Y.qq<|Y.a rfl<|Y.sS rfl<|Y.E rfl<|Y.lt rfl<|Y.z ?_
   refine WP.cond rfl (fun hc9 => ?_) (fun hc9 => ?_)
   ·have hlt2 : i + 1 < zs.length := by simp at hc9; omega
    have hgi := jk2 (show i < zs.length by omega)
    have hgi1 := jk2 hlt2
    have hci : cur[i]'(by omega) = zs[i] := by
     have := congrArg (fun l => l[0]?) hdr
     simp only [List.getElem?_drop, Nat.add_zero] at this
     rw [List.getElem?_eq_getElem (by omega), List.getElem?_eq_getElem (by omega)] at this
     exact Option.some.inj this
    have hci1 : cur[i + 1]'(by omega) = zs[i + 1] := by
     have := congrArg (fun l => l[1]?) hdr
     simp only [List.getElem?_drop] at this
     rw [List.getElem?_eq_getElem (by omega), List.getElem?_eq_getElem (by omega)] at this
     exact Option.some.inj this
    have hnx : jd3 zs (i + 1 + 1) = jd3 zs (i + 1) ++ if zs[i + 1] = zs[i] then [] else [zs[i + 1]] := by
     rw [jd3, hgi1, show i + 1 - 1 = i by omega, hgi]
     by_cases hh : zs[i + 1] = zs[i]
     ·rw [if_pos ⟨by omega, hh⟩, if_pos hh]
     ·rw [if_neg (fun x => hh x.2), if_neg hh]
    have hiq : 0 + (q + 1) * 1 + (i - q) = 0 + (i + 1) := by omega
    have hiq2 : 0 + (q + 1) * 1 + (i - q - 1) = 0 + i := by omega
    refine Y.k<|Y.q<|WP.block<|Y.q<|WP.rstill mixed (by kernel_rfl) H ?_
    clear H; intro w hbw11 H
    have hx := hcl cur w H (i + 1) (by omega)
    have hy := hcl cur w H i (by omega)
    rw [hci1, ← hiq] at hx
    rw [hci, ← hiq2] at hy
    refine Y.sS rfl<|Y.a rfl<|Y.I rfl<|Y.v (Y.c (by assumption) rfl) ?_
    refine Y.sS rfl<|Y.a rfl<|Y.Q rfl ?_
    rw [show (((i - q : Nat) : Int) - 1) = ((i - q - 1 : Nat) : Int) by omega]
    refine Y.I rfl<|Y.v (Y.c (by assumption) rfl) ?_
    refine Y.V rfl<|OPS.nil_s ?_
    refine WP.cond rfl (fun hc11 => ?_) (fun hc11 => ?_)
    ·refine Y.q ?_
     have hne : zs[i + 1] ≠ zs[i] := by simpa using hc11
     rw [if_neg hne] at hnx
     have hx' := hcl cur w H (i + 1) (by omega)
     rw [hci1, ← hiq] at hx'
     refine Y.r<|Y.sS rfl<|Y.a rfl<|Y.sS rfl<|Y.a rfl<|Y.I rfl<|Y.v (Y.c (by assumption) rfl) ?_
     refine Y.I rfl<|OPS.store (b := ⟨g, 3, cur.map I ++ sp⟩) 0 (0 + m) rfl rfl rfl (j4 rfl) rfl (cI (n := zs[i + 1]) rfl) rfl rfl H rfl (by simp; omega) ?_
     clear H; intro w H
     simp only [List.set_cons_zero] at H
     rw [Nat.zero_add, jif (enc := I) cur sp m zs[i + 1] (by omega)] at H
     refine Y.z<|Y.r<|Y.a rfl<|Y.P rfl<|Y.bz rfl<|Y.r<|Y.a rfl<|Y.P rfl<|Y.bz rfl ?_
     first
      | exact ⟨Y.ag, k2 - 1, by omega, m, i + 1, cur, by omega, (by rw [show i + 1 - q = (i - q) + 1 by omega, Int.natCast_add]; rfl), by omega, by omega, rfl, by rw [hnx]; exact hml, hcl2, by rw [hnx]; exact htk, by rw [← List.drop_drop, ← List.drop_drop, hdr], H⟩
      | exact ⟨Y.ag, k2 - 1, by omega, m + 1, i + 1, cur.set m zs[i + 1], by omega, (by rw [show i + 1 - q = (i - q) + 1 by omega, Int.natCast_add]; rfl), by omega, by omega, rfl, by rw [hnx, List.length_append, ← hml]; rfl, by rw [List.length_set]; exact hcl2, by rw [hnx, List.take_succ_eq_append_getElem (by rw [List.length_set]; omega), List.take_set_of_le (Nat.le_refl _), htk, List.getElem_set_self], by rw [List.drop_set_of_lt (by omega), ← List.drop_drop, ← List.drop_drop, hdr], H⟩
    have heq2 : zs[i + 1] = zs[i] := by simpa using hc11
    rw [if_pos heq2, List.append_nil] at hnx
    refine Y.k<|Y.r<|Y.a rfl<|Y.P rfl<|Y.bz rfl ?_
    first
     | exact ⟨Y.ag, k2 - 1, by omega, m, i + 1, cur, by omega, (by rw [show i + 1 - q = (i - q) + 1 by omega, Int.natCast_add]; rfl), by omega, by omega, rfl, by rw [hnx]; exact hml, hcl2, by rw [hnx]; exact htk, by rw [← List.drop_drop, ← List.drop_drop, hdr], H⟩
     | exact ⟨Y.ag, k2 - 1, by omega, m + 1, i + 1, cur.set m zs[i + 1], by omega, (by rw [show i + 1 - q = (i - q) + 1 by omega, Int.natCast_add]; rfl), by omega, by omega, rfl, by rw [hnx, List.length_append, ← hml]; rfl, by rw [List.length_set]; exact hcl2, by rw [hnx, List.take_succ_eq_append_getElem (by rw [List.length_set]; omega), List.take_set_of_le (Nat.le_refl _), htk, List.getElem_set_self], by rw [List.drop_set_of_lt (by omega), ← List.drop_drop, ← List.drop_drop, hdr], H⟩
   have hi : i + 1 = zs.length := by simp at hc9; omega
   rw [hi] at htk hml
   refine WP.exit<|XB.hit<|Y.qr<|Y.sS rfl<|Y.a rfl<|Y.v (Ev.sliceFrom2 (j := m) (x7 rfl) (j4 rfl) rfl rfl rfl (by omega) (by omega))<|OPS.clear (b := ⟨g, 3, cur.map I ++ sp⟩) 0 (0 + m * 1) rfl rfl rfl (zs := [I 0]) (x7 rfl) (jd7 rfl) rfl (by decide) rfl rfl (by omega) H rfl (by simp; omega) ?_
   clear H; intro w H
   simp only [List.set_cons_zero] at H
   refine Y.z<|Y.qr<|Y.sS rfl<|Y.a rfl<|Y.v (Ev.sliceTo (j := m) (x7 rfl) ⟨1, j4 rfl⟩ rfl rfl rfl (by omega))<|Y.aS rfl<|Y.z ?_
   refine WP.ret ⟨_, rfl, ?_⟩
   refine ⟨(jam (cur.map I ++ sp) (0 + m * 1) (mkL (zs.length - m) [I 0])).drop m, by rw [← hml]; rfl, ?_⟩
   have hpt : ∀ (vs cs : List Value) (k : Nat), m ≤ k → (jam cs k vs).take m = cs.take m := fun vs => by
    induction vs with
    | nil => intro cs k _; rfl
    | cons v vs ih =>
     intro cs k hk
     rw [jam, ih _ _ (by omega), List.take_set_of_le (by omega)]
   have hfin : jam (cur.map I ++ sp) (0 + m * 1) (mkL (zs.length - m) [I 0]) = (jd3 zs zs.length).map I ++ (jam (cur.map I ++ sp) (0 + m * 1) (mkL (zs.length - m) [I 0])).drop m := by
    conv => lhs; rw [← List.take_append_drop m (jam (cur.map I ++ sp) (0 + m * 1) (mkL (zs.length - m) [I 0]))]
    rw [hpt _ _ _ (by omega), List.take_append_of_le_length (by simp; omega), ← List.map_take, htk]
   rw [← hfin]
   exact H
  have hne : zs[q + 1] ≠ zs[q] := by simpa using hc6
  refine Y.k<|Y.r<|Y.a rfl<|Y.P rfl<|Y.bz rfl ?_
  exact ⟨Y.ag, k - 1, by omega, q + 1, by omega, rfl, (fun j h0 h1 => by
   by_cases hj : j < q + 1
   ·exact hall j h0 hj
   ·obtain rfl : j = q + 1 := by omega
    rw [hgq1, show q + 1 - 1 = q by omega, hgq]; exact hne), H⟩
 refine WP.exit<|XB.hit<|Y.qr<|Y.sS rfl<|Y.aS rfl<|Y.z ?_
 refine WP.ret ⟨_, rfl, ?_⟩
 have hq : q + 1 = zs.length := by simp at hc4; omega
 have hid : jd3 zs zs.length = zs := by rw [jeh (Nat.le_refl _) (fun j h0 h1 => hall j h0 (by omega)), List.take_length]
 rw [hid]
 exact ⟨sp, rfl, H⟩
theorem jis {zs : List Int} : ∀ {i : Nat}, i ≤ zs.length → ∀ x, x ∈ jd3 zs i ↔ x ∈ zs.take i
 | 0, _, x => by simp [jd3]
 | i + 1, hi, x => by
  have ih := jis (zs := zs) (i := i) (by omega) x
  rw [jd3, List.mem_append, ih, List.take_succ_eq_append_getElem (show i < zs.length by omega), List.mem_append, jk2 (show i < zs.length by omega)]
  by_cases hc : 0 < i ∧ zs[i] = zs.getD (i - 1) 0
  ·rw [if_pos hc]
   simp only [List.not_mem_nil, or_false, List.mem_singleton]
   refine ⟨.inl, fun h => ?_⟩
   rcases h with h | h
   ·exact h
   ·rw [h, hc.2, jk2 (show i - 1 < zs.length by omega)]
    exact List.mem_take_iff_getElem.2 ⟨i - 1, by omega, rfl⟩
  ·rw [if_neg hc]
theorem jfb {zs : List Int} (hs : zs.Pairwise fun x y => x ≤ y) : ∀ {i : Nat}, i ≤ zs.length → (jd3 zs i).Pairwise fun x y => x < y
 | 0, _ => by simp [jd3]
 | i + 1, hi => by
  rw [jd3, List.pairwise_append]
  refine ⟨jfb hs (by omega), by split <;> simp, fun x hx y hy => ?_⟩
  rw [jis (by omega)] at hx
  split at hy
  ·cases hy
  ·rename_i hc
   rw [jk2 (show i < zs.length by omega)] at hc hy
   rw [List.mem_singleton.1 hy]
   obtain ⟨j, hj, rfl⟩ := List.mem_take_iff_getElem.1 hx
   have hp := List.pairwise_iff_getElem.1 hs
   have h1 : zs[j] ≤ zs[i - 1]'(by omega) := by
    by_cases hji : j = i - 1
    ·subst hji; exact Int.le_refl _
    ·exact hp j (i - 1) (by omega) (by omega) (by omega)
   have h2 : zs[i - 1]'(by omega) ≤ zs[i] := hp (i - 1) i (by omega) (by omega) (by omega)
   rw [jk2 (show i - 1 < zs.length by omega)] at hc
   have : ¬ zs[i] = zs[i - 1]'(by omega) := fun h => hc ⟨by omega, h⟩
   omega
def srt (l : List Int) : List Int := l.mergeSort fun x y => decide (x ≤ y)
theorem jeL (l : List Int) : (srt l).Perm l := List.mergeSort_perm l _
theorem jeS (l : List Int) : (srt l).length = l.length := (jeL l).length_eq
theorem jfy (l : List Int) : (srt l).Pairwise fun x y => x ≤ y := by
 have := List.pairwise_mergeSort (le := fun x y : Int => decide (x ≤ y)) (fun a b c h1 h2 => by simp at *; omega) (fun a b => by simp; omega) l
 exact this.imp fun h => by simpa using h
theorem sortOwn (g : Nat) (zs : List Int) (sp : List Value) (cap : Nat) (w0 : World) (hb : w0.heap[g]? = some (.cells (zs.map I ++ sp).toArray 3 (0, 0))) (hlen : zs.length ≤ 1000000) :
  Calls Tryz.prog 127 #[.slice (some ⟨g, 0, none⟩) zs.length cap] w0 fun e w' => e = .returned (.tuple #[]) ∧ SH w0 [g] w' [⟨g, 3, (srt zs).map I ++ sp⟩] := by
 have hg : g < w0.heap.size := (Array.getElem?_eq_some_iff.1 hb).1
 have hH : Sort.Holds (Value.int .i64) w0 g 0 zs.toArray := holds_of_blockI hb (by simp)
 refine (Tryz.slices_Sort_int g 0 cap zs w0 hH hg (by omega)).mono ?_
 rintro e w' ⟨rfl, n, os, rfl⟩
 have hgr := grownBy_sortedI (w := w0) (g := g) (n := n) (os := os) (srt zs).toArray
 have hh := heap_sortedI (w := w0) (n := n) (os := os) (srt zs).toArray hb
 have hl := jeS zs
 have hcells : Sort.putCells (Value.int .i64) 0 (srt zs).toArray (zs.map I ++ sp).toArray = ((srt zs).map I ++ sp).toArray := by
  apply Array.ext_getElem?
  intro k
  simp only [Sort.putCells, Array.getElem?_mapIdx, List.getElem?_toArray]
  by_cases hk : k < zs.length
  ·have h1 : k < (zs.map I).length := by simpa using hk
   have h2 : k < ((srt zs).map I).length := by simp; omega
   rw [List.getElem?_append_left h1, List.getElem?_append_left h2, List.getElem?_eq_getElem h1, List.getElem?_eq_getElem h2]
   simp [hl, hk, show k < (srt zs).length by omega]
  ·rw [List.getElem?_append_right (by simp; omega), List.getElem?_append_right (by simp; omega)]
   simp only [List.length_map, hl]
   cases sp[k - zs.length]? with
   | none => rfl
   | some v => simp [hl, hk]
 rw [hcells] at hh
 exact ⟨rfl, hgr.os, hgr.tape, hgr.output, hgr.size, fun k hk hS => hgr.block k hk (by simp at hS; simpa using hS), fun b hb => by
  obtain rfl : b = ⟨g, 3, (srt zs).map I ++ sp⟩ := by simpa using hb
  exact hh, fun b hb => by
  obtain rfl : b = ⟨g, 3, (srt zs).map I ++ sp⟩ := by simpa using hb
  exact .inr (by simp), by simp⟩
theorem ints_it {w : World} {A : Option Addr} {l : List Int} (h : k9 w A l) : It.Ints w.heap.size w A l := by
 cases l with
 | nil => exact .inl rfl
 | cons x l =>
  obtain ⟨b, o, rfl, h0⟩ := h 0 (by simp)
  refine .inr ⟨b, o, rfl, World.block_lt_of_cell? w _ h0, fun j hj => ?_⟩
  obtain ⟨b', o', e, hc⟩ := h j hj
  cases e
  rw [List.getElem?_eq_getElem hj]
  exact hc
theorem jhq (g : Nat) (A : Option Addr) (l : List Int) (cap : Nat) (w0 : World) (hz : k9 w0 A l) (hl : l.length ≤ 1000) (hg : w0.heap[g]? = some (.cells #[.slice A l.length cap] 32 (0, 0))) :
  Calls Tryz.prog 143 #[.slice none 0 0, .func (.func 128) #[] #[.pointer (some ⟨g, 0, none⟩)]] w0 fun e w' => ∃ (A' : Option Addr) (c : Nat) (Lo : List Blk), e = .returned (.slice A' l.length c) ∧ OwnS A' c l.length (l.map I) 3 1 Lo ∧ SH w0 [] w' Lo := by
 have hlt : g < w0.heap.size := (Array.getElem?_eq_some_iff.1 hg).1
 refine (callsIn_wide.1 (It.appendSeq 3 (by omega) g A cap l (by unfold maxLen; omega) (by omega) w0 hlt (by simp [World.cell?, hg]) (ints_it hz))).mono ?_
 rintro e w' ⟨v, rfl, hO, _, hB⟩
 rcases hO.2 with ⟨rfl, h0⟩ | ⟨g', c, cur, rfl, h1, h2, h3, h4, h5, h6⟩
 ·have : l = [] := List.eq_nil_of_length_eq_zero h0
  subst this
  exact ⟨none, 0, [], rfl, OwnS.nil, hB.os, hB.tape, hB.output, hB.size, fun k hk _ => hB.block k hk, by simp, by simp, by simp⟩
 ·have hcur : cur.toList = l.map I ++ cur.toList.drop l.length := by
   have := List.take_append_drop l.length cur.toList
   rw [Nat.mul_one] at h6
   rw [h6] at this
   exact this.symm
  refine ⟨some ⟨g', 0, none⟩, c, [⟨g', 3, cur.toList⟩], rfl, ⟨by simp, .inr ⟨g', cur.toList.drop l.length, rfl, by rw [← hcur], h3, h4, by rw [← hcur]; simpa using h5⟩⟩, hB.os, hB.tape, hB.output, hB.size, fun k hk _ => hB.block k hk, fun b hb => ?_, fun b hb => ?_, by simp⟩
  ·obtain rfl : b = ⟨g', 3, cur.toList⟩ := by simpa using hb
   simpa using h2
  ·obtain rfl : b = ⟨g', 3, cur.toList⟩ := by simpa using hb
   exact .inl h1
theorem jjp (g : Nat) (A : Option Addr) (l : List Int) (cap : Nat) (w0 : World) (hz : k9 w0 A l) (hl : l.length ≤ 1000) (hg : w0.heap[g]? = some (.cells #[.slice A l.length cap] 32 (0, 0))) :
  Calls Tryz.prog 126 #[.func (.func 128) #[] #[.pointer (some ⟨g, 0, none⟩)]] w0 fun e w' => ∃ (A' : Option Addr) (c : Nat) (Lo : List Blk), e = .returned (.slice A' l.length c) ∧ OwnS A' c l.length (l.map I) 3 1 Lo ∧ SH w0 [] w' Lo := by
 have H := SH.refl w0
 refine Calls.ofWP Tryz.func126 rfl Tryz.results126 Tryz.ntmps126 rfl<|Y.qr<|Y.aS rfl<|Y.z<|Y.qr<|Y.v (Ev.mvF rfl)<|Y.c2 4 rfl (jhq g A l cap w0 hz hl hg) ?_
 rintro _ w ⟨A', c, Lo, rfl, hO, Hc⟩
 refine ⟨_, rfl, ?_⟩
 replace H := Hc
 refine Y.aS rfl<|Y.z ?_
 refine WP.ret ⟨_, rfl, ?_⟩
 exact ⟨A', c, Lo, rfl, hO, H⟩
theorem sortS (A : Option Addr) (c : Nat) (zs : List Int) (Lo : List Blk) (w0 : World) (hl : zs.length ≤ 1000) (hO : OwnS A c zs.length (zs.map I) 3 1 Lo) (H0 : SH w0 (Lo.map (·.g)) w0 Lo) :
  Calls Tryz.prog 127 #[.slice A zs.length c] w0 fun e w' => ∃ Lo', e = .returned (.tuple #[]) ∧ OwnS A c zs.length ((srt zs).map I) 3 1 Lo' ∧ SH w0 (Lo.map (·.g)) w' Lo' := by
 have hsl := jeS zs
 rcases hO.form with ⟨rfl, h0, rfl, rfl⟩ | ⟨g, sp, rfl, rfl, h1, h2, h3⟩
 ·have : zs = [] := List.eq_nil_of_length_eq_zero h0
  subst this
  refine (Tryz.slices_Sort_int_none none 0 w0).mono ?_
  rintro e w' ⟨rfl, rfl⟩
  exact ⟨[], rfl, ⟨by simp [srt], .inl ⟨rfl, rfl, rfl, rfl⟩⟩, H0⟩
 ·refine (sortOwn g zs sp c w0 (H0.own ⟨g, 3, zs.map I ++ sp⟩ (by simp)) (by omega)).mono ?_
  rintro e w' ⟨rfl, Hc⟩
  exact ⟨_, rfl, ⟨by simp [hsl], .inr ⟨g, sp, rfl, rfl, h1, h2, by simpa [hsl] using h3⟩⟩, Hc⟩
theorem jiy (g : Nat) (A : Option Addr) (l : List Int) (cap : Nat) (w0 : World) (hz : k9 w0 A l) (hl : l.length ≤ 1000) (hg : w0.heap[g]? = some (.cells #[.slice A l.length cap] 32 (0, 0))) :
  Calls Tryz.prog 102 #[.func (.func 128) #[] #[.pointer (some ⟨g, 0, none⟩)]] w0 fun e w' => ∃ (A' : Option Addr) (c : Nat) (Lo : List Blk), e = .returned (.slice A' l.length c) ∧ OwnS A' c l.length ((srt l).map I) 3 1 Lo ∧ SH w0 [] w' Lo := by
 have H := SH.refl w0
 refine Calls.ofWP Tryz.func102 rfl Tryz.results102 Tryz.ntmps102 rfl<|Y.qr<|Y.aS rfl<|Y.z<|Y.qr<|Y.v (Ev.mvF rfl)<|Y.c2 5 rfl (jjp g A l cap w0 hz hl hg) ?_
 rintro _ w ⟨A', c, Lo, rfl, hO, Hc⟩
 refine ⟨_, rfl, ?_⟩
 replace H := Hc
 clear Hc
 refine Y.aS rfl<|Y.z<|Y.qr<|Y.sS rfl<|Y.c2 7 rfl (sortS A' c l Lo w hl hO (H.restart (List.Sublist.refl _))) ?_
 rintro _ w ⟨Lo', rfl, hO', Hc⟩
 refine ⟨_, rfl, ?_⟩
 replace H := SH.call (L1 := []) (Lv := Lo) H Hc
 refine Y.z<|Y.qr<|Y.sS rfl<|Y.aS rfl<|Y.z ?_
 refine WP.ret ⟨_, rfl, ?_⟩
 exact ⟨A', c, Lo', rfl, hO', H⟩
theorem jiw (A : Option Addr) (n cap : Nat) (w0 : World) :
  Calls Tryz.prog 103 #[.slice A n cap] w0 fun e w' => ∃ g, e = .returned (.func (.func 128) #[] #[.pointer (some ⟨g, 0, none⟩)]) ∧ SH w0 [] w' [⟨g, 32, [.slice A n cap]⟩] := by
 have H := SH.refl w0
 refine Calls.ofWP Tryz.func103 rfl Tryz.results103 Tryz.ntmps103 rfl<|Y.qr<|OPS.box rfl rfl rfl rfl (cS rfl) H ?_
 clear H; intro g1 w H
 refine Y.v (Ev.assign)<|Y.z<|Y.qr<|Y.v (Ev.makeFunc)<|Y.v (Ev.asF rfl)<|Y.z ?_
 refine WP.ret ⟨_, rfl, ?_⟩
 exact ⟨_, rfl, H⟩
end Go.Proofs.YtgcokllbophkkaaGreat
namespace Go.Proofs.YtgcokllbophkkaaGreat
open Go Go.W Go.RowKit
theorem jix (zs : List Int) : ∀ {i : Nat}, i ≤ zs.length → (jd3 zs i).Sublist (zs.take i)
 | 0, _ => by simp [jd3]
 | i + 1, h => by
  rw [jd3, List.take_succ_eq_append_getElem (show i < zs.length by omega)]
  refine List.Sublist.append (jix zs (by omega)) ?_
  split
  ·exact Y.sn
  ·rw [jk2 (show i < zs.length by omega)]; exact List.Sublist.refl _
theorem ji3 (l : List Int) : (jd3 (srt l) l.length).length = l.length ↔ l.Nodup := by
 have hl := jeS l
 constructor
 ·intro h
  have h1 := jix (srt l) (i := l.length) (by omega)
  rw [show (srt l).take l.length = srt l by rw [← hl, List.take_length]] at h1
  have h2 := h1.eq_of_length (by omega)
  have h3 := jfb (jfy l) (i := l.length) (by omega)
  rw [h2] at h3
  exact (jeL l).nodup_iff.1 (List.nodup_iff_pairwise_ne.2 (h3.imp fun h => by omega))
 ·intro h
  have h1 := (jeL l).nodup_iff.2 h
  rw [jeh (by omega) (fun j h0 hj => ?_), List.length_take]
  ·omega
  ·rw [jk2 (show j < (srt l).length by omega), jk2 (show j - 1 < (srt l).length by omega)]
   intro he
   have := (List.getElem_inj h1).1 he
   omega
theorem compS (A : Option Addr) (c : Nat) (zs : List Int) (Lo : List Blk) (w0 : World) (hl : zs.length ≤ 1000) (hO : OwnS A c zs.length (zs.map I) 3 1 Lo) (H0 : SH w0 (Lo.map (·.g)) w0 Lo) :
  Calls Tryz.prog 104 #[.slice A zs.length c] w0 fun e w' => ∃ Lo', e = .returned (.slice A (jd3 zs zs.length).length c) ∧ SH w0 (Lo.map (·.g)) w' Lo' := by
 rcases hO.form with ⟨rfl, h0, rfl, rfl⟩ | ⟨g, sp, rfl, rfl, h1, h2, h3⟩
 ·have : zs = [] := List.eq_nil_of_length_eq_zero h0
  subst this
  refine (Tryz.slices_Compact_int_empty none 0 w0).mono ?_
  rintro e w' ⟨rfl, rfl⟩
  exact ⟨[], rfl, H0⟩
 ·refine (jk5 g zs sp c w0 H0 (by omega) h1).mono ?_
  rintro e w' ⟨sp', rfl, Hc⟩
  exact ⟨_, rfl, Hc⟩
def jcp (n : Int) (l : List Edg) (ts : List q9) (ns : List z6) (hd rt : Int) (rn : List Int) : Int :=
 if q7 n l ts ns hd ≠ 0 then q7 n l ts ns hd else if y4 ts ns rt rn ≠ 0 then y4 ts ns rt rn else if 6 < rn.length then 8 else 0
theorem jhf (i : Int) (g k cc : Nat) (C : Option Addr) (w0 : World) (hk : k ≤ 1000) (hc : w0.cell? ⟨g, 3, none⟩ = some (.slice C k cc)) :
  Calls Tryz.prog 101 #[I i, .pointer (some ⟨g, 0, none⟩)] w0 fun e w' => e = .returned (.bool (jc5 k i)) ∧ Below w0.heap.size w0 w' := by
 have H := SH.refl w0
 have he : jc5 k i = (decide (i < 0) || decide ((k : Int) ≤ i)) := by
  unfold jc5 inB
  rw [Bool.eq_iff_iff]; simp; omega
 rw [he]
 refine Calls.ofWP Tryz.func101 rfl Tryz.results101 Tryz.ntmps101 rfl<|Y.qr<|Y.aB rfl<|Y.z<|Y.qr<|Y.a rfl<|Y.lt rfl<|Y.B rfl<|Y.gm rfl<|Y.gf rfl<|Y.g rfl rfl (fun hg => Ev.load1 (j6 rfl) (gvE hg rfl) (H.ld0 (by assumption))) ?_
 refine Y.g rfl rfl (fun hg => Ev.len (x7 rfl) (gvE hg rfl))<|Y.g rfl rfl (fun hg => Ev.geq (gvE hg rfl) (gvE hg rfl))<|Y.po rfl<|Y.aB rfl<|Y.z ?_
 refine WP.ret ⟨_, rfl, ?_⟩
 exact ⟨rfl, H.below⟩
theorem jiX (n hd rt : Int) (A B C R : Option Addr) (l : List Edg) (ts : List q9) (ns : List z6) (rn : List Int) (ca cb cc cr : Nat) (w0 : World) (hz : ja3 w0 A l) (ht : k8 4 k5 w0 B ts) (hn : k8 2 j8 w0 C ns) (hcc : ns.length ≤ cc) (hr : k9 w0 R rn) (hrl : rn.length ≤ 1000) :
  Calls Tryz.prog 81 #[.agg #[I n, .slice A l.length ca, .slice B ts.length cb, .slice C ns.length cc, I hd], I rt, .slice R rn.length cr] w0 fun e w' => e = .returned (I (jcp n l ts ns hd rt rn)) ∧ Below w0.heap.size w0 w' := by
 have H := SH.refl w0
 have hsl := jeS rn
 refine Calls.ofWP Tryz.func81 rfl Tryz.results81 Tryz.ntmps81 rfl<|Y.qr<|Y.bx (cA rfl) H ?_
 clear H; intro g3 w H
 refine Y.bz rfl<|Y.qq<|Y.O H 0 rfl<|Y.cl 11 rfl (jcA n hd A B C l ts ns ca cb cc w (hz.sh H) (ht.sh H) (hn.sh H) hcc) H ?_
 clear H; intro w H
 refine Y.bz rfl<|Y.qr<|Y.a rfl<|Y.V rfl<|Y.z ?_
 refine WP.cond rfl (fun hc2 => ?_) (fun hc2 => ?_)
 ·refine Y.qr<|Y.a rfl<|Y.bz rfl ?_
  refine WP.ret ⟨_, rfl, ?_⟩
  have h : q7 n l ts ns hd ≠ 0 := by simpa using hc2
  exact ⟨by rw [jcp, if_pos h]; rfl, H.below⟩
 have h0 : q7 n l ts ns hd = 0 := by simpa using hc2
 obtain ⟨m, rfl, hN⟩ := jaO h0
 have htl := hN.tl
 have hnl := hN.nl
 have he0 : jcp m l ts ns hd rt rn = if y4 ts ns rt rn ≠ 0 then y4 ts ns rt rn else if 6 < rn.length then 8 else 0 := by rw [jcp, if_neg (by simp [h0])]
 have hout : jc5 ts.length rt = (decide (rt < 0) || decide ((ts.length : Int) ≤ rt)) := by
  unfold jc5 inB
  rw [Bool.eq_iff_iff]; simp; omega
 refine Y.k<|Y.qr<|Y.v (Ev.makeFunc)<|Y.v (Ev.asF rfl)<|Y.z<|Y.qq<|Y.a rfl<|Y.lt rfl<|Y.B rfl<|Y.gm rfl<|Y.gf rfl<|Y.yy H 0 rfl<|Y.g rfl rfl (fun hg => Ev.len (x7 rfl) (gvE hg rfl))<|Y.g rfl rfl (fun hg => Ev.geq (gvE hg rfl) (gvE hg rfl))<|Y.po rfl<|Y.B rfl<|Y.g rfl rfl (fun hg => Ev.mvS rfl)<|Y.g rfl rfl (fun hg => Ev.mvF rfl)<|OPS.gcall0 (f := 73) (jc4 R rn cr _ [.pointer (some ⟨g3, 0, none⟩)] (jc5 ns.length) _ (hr.sh H) (by unfold maxLen; omega) rfl (fun i _ w2 hb => jhf i g3 ns.length cc C w2 (by omega) (cell_below hb (H.ldL 0 rfl 3 rfl)))) (fun _ _ h => h) rfl rfl rfl rfl rfl (fun hg => EvC.conv (EvC.func (z7 rfl)) (l2 (gvE hg rfl) (gvE hg rfl))) ?_
 intro w hbc; replace H := H.toBelow hbc
 refine Y.po rfl<|Y.z ?_
 refine WP.cond rfl (fun hc5 => ?_) (fun hc5 => ?_)
 ·refine Y.qr<|Y.bz rfl ?_
  refine WP.ret ⟨_, rfl, ?_⟩
  have he : y4 ts ns rt rn = 7 := by
   unfold y4
   rw [if_pos]
   rw [hout]; simpa using hc5
  exact ⟨by rw [he0, he]; rfl, H.below⟩
 have hno : ¬ (jc5 ts.length rt = true ∨ rn.any (jc5 ns.length) = true) := by rw [hout]; simpa using hc5
 have he1 : y4 ts ns rt rn = if jaA rn = true then 6 else 0 := by
  unfold y4
  rw [if_neg hno]
 refine Y.k<|Y.qr<|Y.sS rfl<|Y.c2 31 rfl (jiw R rn.length cr w) ?_
 rintro _ w ⟨gv, rfl, Hc⟩
 refine ⟨_, rfl, ?_⟩
 replace H := SH.call (L1 := []) (Lv := []) (H.drop Y.sn) Hc
 clear Hc
 refine Y.c2 32 rfl (jiy gv R rn cr w (hr.sh H) hrl (by have := H.own ⟨gv, 32, [.slice R rn.length cr]⟩ (by simp); simpa using this)) ?_
 rintro _ w ⟨S, c, Lo, rfl, hO, Hc⟩
 refine ⟨_, rfl, ?_⟩
 replace H := SH.call (L1 := []) (Lv := []) (H.drop Y.sn) Hc
 clear Hc
 have hcm := ji3 rn
 rw [← hsl] at hO
 rw [← hsl]
 refine Y.aS rfl<|Y.z<|Y.qq<|Y.sS rfl<|Y.c2 34 rfl (compS S c (srt rn) Lo w (by omega) hO (H.restart (List.Sublist.refl _))) ?_
 rintro _ w ⟨Lo', rfl, Hc⟩
 refine ⟨_, rfl, ?_⟩
 replace H := SH.call (L1 := []) (Lv := Lo) H Hc
 refine Y.E rfl<|Y.sS rfl<|Y.E rfl<|Y.V rfl<|Y.z ?_
 refine WP.cond rfl (fun hc8 => ?_) (fun hc8 => ?_)
 ·refine Y.qr<|Y.bz rfl ?_
  refine WP.ret ⟨_, rfl, ?_⟩
  have he : y4 ts ns rt rn = 6 := by
   rw [he1, if_pos]
   have : (jd3 (srt rn) (srt rn).length).length ≠ rn.length := by simp at hc8; omega
   unfold jaA
   rw [hsl] at this
   simpa using fun h => this (hcm.2 h)
  exact ⟨by rw [he0, he]; rfl, H.below⟩
 have he : y4 ts ns rt rn = 0 := by
  rw [he1, if_neg]
  have : (jd3 (srt rn) (srt rn).length).length = rn.length := by simp at hc8; omega
  unfold jaA
  rw [hsl] at this
  simpa using hcm.1 this
 refine Y.k<|Y.qq<|Y.sS rfl<|Y.E rfl<|Y.v (Ev.gtr rfl rfl)<|Y.z ?_
 refine WP.cond rfl (fun hc10 => ?_) (fun hc10 => ?_)
 ·refine Y.qr<|Y.bz rfl ?_
  refine WP.ret ⟨_, rfl, ?_⟩
  exact ⟨by rw [he0, he, if_neg (by simp), if_pos (by simp at hc10; omega)]; rfl, H.below⟩
 refine Y.k<|Y.qr<|Y.bz rfl ?_
 refine WP.ret ⟨_, rfl, ?_⟩
 exact ⟨by rw [he0, he, if_neg (by simp), if_neg (by simp at hc10; omega)]; rfl, H.below⟩
end Go.Proofs.YtgcokllbophkkaaGreat
namespace Go.W
open Go.RowKit
open Classical in
theorem jiC {α : Type} (l : List α) (x : α) : (l.map fun a => if a = x then 1 else 0).sum = l.count x := by
 induction l with
 | nil => rfl
 | cons a l ih =>
  rw [List.map_cons, List.sum_cons, ih, List.count_cons]
  by_cases h : a = x <;> simp [h] <;> omega
open Classical in
theorem jio {α : Type} {l l' : List α} (h : ∀ f : α → Nat, (l.map f).sum = (l'.map f).sum) : l.Perm l' :=
 List.perm_iff_count.2 fun x => by rw [← jiC, ← jiC]; exact h _
theorem OwnS.mt {g el sz : Nat} : OwnS (some ⟨g, 0, none⟩) 0 0 [] el sz [⟨g, el, []⟩] := ⟨by simp, .inr ⟨g, [], rfl, rfl, Nat.le_refl _, by unfold maxLen; omega, by simp⟩⟩
class Sb (L' L : List Blk) : Prop where
 out : L'.Sublist L
instance (L : List Blk) : Sb L L := ⟨List.Sublist.refl _⟩
instance (L M N : List Blk) [h : Sb L N] : Sb L (M ++ N) := ⟨h.out.trans (List.sublist_append_right _ _)⟩
instance (L M N : List Blk) [h : Sb L M] : Sb L (M ++ N) := ⟨h.out.trans (List.sublist_append_left _ _)⟩
instance (L M : List Blk) (b : Blk) [h : Sb L M] : Sb L (b :: M) := ⟨h.out.cons b⟩
end Go.W
namespace Go.Proofs.YtgcokllbophkkaaGreat
open Go Go.W Go.RowKit
def jeC (a b : Int) : Int := if a < b then -1 else if b < a then 1 else 0
theorem jeo (a b : Int) (w0 : World) : Calls Tryz.prog 109 #[I a, I b] w0 fun e w' => e = .returned (I (jeC a b)) ∧ Below w0.heap.size w0 w' := by
 have H := SH.refl w0
 refine Calls.ofWP Tryz.func109 rfl Tryz.results109 Tryz.ntmps109 rfl<|Y.qr<|Y.bz rfl<|Y.qr<|Y.a rfl<|Y.cl 8 rfl (jip a _) H ?_
 clear H; intro w H
 refine Y.aB rfl<|Y.z<|Y.qr<|Y.a rfl<|Y.cl 10 rfl (jip b _) H ?_
 clear H; intro w H
 refine Y.aB rfl<|Y.z<|Y.qq<|Y.B rfl<|Y.z ?_
 refine WP.cond rfl (fun hc3 => ?_) (fun hc3 => ?_)
 ·refine Y.qq<|Y.B rfl<|Y.z ?_
  refine WP.cond rfl (fun hc4 => ?_) (fun hc4 => ?_)
  ·refine Y.qr<|Y.bz rfl ?_
   refine WP.ret ⟨_, rfl, ?_⟩
   cases hc3
  refine Y.k<|Y.qr<|Y.bz rfl ?_
  refine WP.ret ⟨_, rfl, ?_⟩
  cases hc3
 refine Y.k<|Y.qq<|Y.B rfl<|Y.z ?_
 refine WP.cond rfl (fun hc7 => ?_) (fun hc7 => ?_)
 ·refine Y.qr<|Y.bz rfl ?_
  refine WP.ret ⟨_, rfl, ?_⟩
  cases hc7
 refine Y.k<|Y.qq<|Y.a rfl<|Y.a rfl<|Y.lt rfl<|Y.z ?_
 refine WP.cond rfl (fun hc9 => ?_) (fun hc9 => ?_)
 ·refine Y.qr<|Y.bz rfl ?_
  refine WP.ret ⟨_, rfl, ?_⟩
  have h : a < b := by simpa using hc9
  exact ⟨by rw [jeC, if_pos h]; rfl, H.below⟩
 refine Y.k<|Y.qq<|Y.a rfl<|Y.a rfl<|Y.v (Ev.gtr rfl rfl)<|Y.z ?_
 refine WP.cond rfl (fun hc11 => ?_) (fun hc11 => ?_)
 ·refine Y.qr<|Y.bz rfl ?_
  refine WP.ret ⟨_, rfl, ?_⟩
  have h : ¬ a < b := by simpa using hc9
  have h2 : b < a := by simpa using hc11
  exact ⟨by rw [jeC, if_neg h, if_pos h2]; rfl, H.below⟩
 refine Y.k<|Y.qr<|Y.bz rfl ?_
 refine WP.ret ⟨_, rfl, ?_⟩
 have h : ¬ a < b := by simpa using hc9
 have h2 : ¬ b < a := by simpa using hc11
 exact ⟨by rw [jeC, if_neg h, if_neg h2]; rfl, H.below⟩
def orI : List Int → Int
 | [] => 0
 | x :: l => if x ≠ 0 then x else orI l
theorem jf1 {l : List Int} : ∀ {j : Nat}, j ≤ l.length → (∀ i (h : i < l.length), i < j → l[i] = 0) → orI l = orI (l.drop j)
 | 0, _, _ => by simp
 | j + 1, hj, h => by
  rw [jf1 (j := j) (by omega) (fun i h1 h2 => h i h1 (by omega)), List.drop_eq_getElem_cons (show j < l.length by omega), orI, if_neg (by simpa using h j (by omega) (by omega))]
theorem cmpOr (A : Option Addr) (l : List Int) (cap : Nat) (w0 : World) (hz : k9 w0 A l) (hl : l.length ≤ 1000) :
  Calls Tryz.prog 108 #[.slice A l.length cap] w0 fun e w' => e = .returned (I (orI l)) ∧ Below w0.heap.size w0 w' := by
 have H := SH.refl w0
 refine Calls.ofWP Tryz.func108 rfl Tryz.results108 Tryz.ntmps108 rfl<|Y.qr<|Y.bz rfl<|Y.qr<|Y.bz rfl<|Y.qq<|Y.sS rfl<|Y.E rfl<|Y.a rfl<|Y.z<|WP.block<|WP.loop [2, 5, 8, 9, 10, 11, 12, 13, 14, 15, 16] (fun k e w' => ∃ (j : Nat), j + k = l.length ∧ e 8 = I j ∧ (∀ i (h : i < l.length), i < j → l[i] = 0) ∧ SH w0 [] w' []) (l.length) (⟨0, by omega, rfl, fun _ _ _ => by omega, H⟩) ?_
 clear H
 rintro k u w ⟨j, hk, h8, hall, H⟩
 refine WP.know (t := 8) h8<|Y.qr<|Y.lt rfl<|Y.z<|Y.q ?_
 refine WP.cond rfl (fun hc3 => ?_) (fun hc3 => ?_)
 ·have hlt : j < l.length := by simpa using hc3
  obtain ⟨b, o, rfl, hx⟩ := hz j hlt
  refine Y.k<|Y.q<|WP.block<|Y.qr<|Y.I rfl<|Y.v (Y.c (H.ld0 (by assumption)) rfl) ?_
  refine Y.bz rfl<|Y.qr<|Y.a rfl<|Y.a rfl<|Y.V rfl<|Y.z ?_
  refine WP.cond rfl (fun hc5 => ?_) (fun hc5 => ?_)
  ·refine Y.qr<|Y.a rfl<|Y.bz rfl ?_
   refine WP.ret ⟨_, rfl, ?_⟩
   have hne : l[j] ≠ 0 := by simpa using hc5
   exact ⟨by rw [jf1 (j := j) (by omega) hall, List.drop_eq_getElem_cons hlt, orI, if_pos hne]; rfl, H.below⟩
  have hne : l[j] = 0 := by simpa using hc5
  refine Y.k<|Y.r<|Y.P rfl<|Y.a rfl<|Y.z ?_
  exact ⟨Y.ag, k - 1, by omega, j + 1, by omega, rfl, (fun i h1 h2 => by
   rcases Nat.lt_or_eq_of_le (Nat.le_of_lt_succ h2) with h | rfl
   ·exact hall i h1 h
   ·exact hne), H⟩
 refine WP.exit<|XB.hit<|Y.qr<|Y.a rfl<|Y.bz rfl ?_
 refine WP.ret ⟨_, rfl, ?_⟩
 have hj : j = l.length := by simp at hc3; omega
 exact ⟨by rw [jf1 (j := j) (by omega) hall, hj, List.drop_length]; rfl, H.below⟩
def jcJ : List Int → List Int → Int
 | [], [] => 0
 | [], _ :: _ => -1
 | _ :: _, [] => 1
 | x :: a, y :: b => if jeC x y ≠ 0 then jeC x y else jcJ a b
theorem jgD : ∀ (a b : List Int), jcJ a b < 0 ↔ lexB a b = true
 | [], [] => by simp [jcJ, lexB]
 | [], _ :: _ => by simp [jcJ, lexB]
 | _ :: _, [] => by simp [jcJ, lexB]
 | x :: a, y :: b => by
  have ih := jgD a b
  rw [jcJ, lexB, jeC]
  by_cases h1 : x < y
  ·simp [h1]
  ·by_cases h2 : y < x
   ·simp [h1, h2]
   ·simp [h1, h2, ih]
theorem jcy {a b : List Int} : ∀ {j : Nat}, j ≤ a.length → j ≤ b.length → (∀ i (h : i < a.length) (h2 : i < b.length), i < j → a[i] = b[i]) → jcJ a b = jcJ (a.drop j) (b.drop j)
 | 0, _, _, _ => by simp
 | j + 1, h1, h2, h => by
  rw [jcy (j := j) (by omega) (by omega) (fun i q1 q2 q3 => h i q1 q2 (by omega)), List.drop_eq_getElem_cons (show j < a.length by omega), List.drop_eq_getElem_cons (show j < b.length by omega), jcJ, h j (by omega) (by omega) (by omega), if_neg (by simp [jeC])]
theorem jkN (A B : Option Addr) (a b : List Int) (c1 c2 : Nat) (w0 : World) (ha : k9 w0 A a) (hb : k9 w0 B b) (hl : a.length ≤ 1000) (hl2 : b.length ≤ 1000) :
  Calls Tryz.prog 110 #[.slice A a.length c1, .slice B b.length c2] w0 fun e w' => e = .returned (I (jcJ a b)) ∧ Below w0.heap.size w0 w' := by
 have H := SH.refl w0
 refine Calls.ofWP Tryz.func110 rfl Tryz.results110 Tryz.ntmps110 rfl<|Y.qr<|Y.bz rfl<|Y.qq<|Y.sS rfl<|Y.E rfl<|Y.a rfl<|Y.z<|WP.block<|WP.loop [4, 5, 6, 7, 8, 11, 12, 13, 14, 15, 16, 17, 18, 19, 20, 21, 22, 23, 24, 25, 26, 27, 28, 29, 30] (fun k e w' => ∃ (j : Nat), j + k = a.length ∧ e 11 = I j ∧ j ≤ b.length ∧ (∀ i (h : i < a.length) (h2 : i < b.length), i < j → a[i] = b[i]) ∧ SH w0 [] w' []) (a.length) (⟨0, by omega, rfl, by omega, fun _ _ _ _ => by omega, H⟩) ?_
 clear H
 rintro k u w ⟨j, hk, h11, hjb, hall, H⟩
 refine WP.know (t := 11) h11<|Y.qr<|Y.lt rfl<|Y.z<|Y.q ?_
 refine WP.cond rfl (fun hc2 => ?_) (fun hc2 => ?_)
 ·have hlt : j < a.length := by simpa using hc2
  obtain ⟨b1, o1, rfl, hx⟩ := ha j hlt
  refine Y.k<|Y.q<|WP.block<|Y.qr<|Y.a rfl<|Y.I rfl<|Y.v (Y.c (H.ld0 (by assumption)) rfl) ?_
  refine Y.b rfl<|Y.bz rfl<|Y.qq<|Y.a rfl<|Y.sS rfl<|Y.E rfl<|Y.v (Ev.geq rfl rfl)<|Y.z ?_
  refine WP.cond rfl (fun hc4 => ?_) (fun hc4 => ?_)
  ·refine Y.qr<|Y.bz rfl ?_
   refine WP.ret ⟨_, rfl, ?_⟩
   have h : ¬ j < b.length := by simpa using hc4
   exact ⟨by rw [jcy (j := j) (by omega) (by omega) hall, List.drop_eq_getElem_cons hlt, List.drop_eq_nil_of_le (show b.length ≤ j by omega)]; rfl, H.below⟩
  have hlt2 : j < b.length := by simpa using hc4
  obtain ⟨b2, o2, rfl, hy⟩ := hb j hlt2
  refine Y.k<|Y.qr<|Y.sS rfl<|Y.a rfl<|Y.I rfl<|Y.v (Y.c (H.ld0 (by assumption)) rfl) ?_
  refine Y.bz rfl<|Y.qr<|Y.a rfl<|Y.a rfl<|Y.cl 26 rfl (jeo a[j] b[j] _) H ?_
  clear H; intro w H
  refine Y.bz rfl<|Y.qr<|Y.a rfl<|Y.V rfl<|Y.z ?_
  refine WP.cond rfl (fun hc8 => ?_) (fun hc8 => ?_)
  ·refine Y.qr<|Y.a rfl<|Y.bz rfl ?_
   refine WP.ret ⟨_, rfl, ?_⟩
   have hne : jeC a[j] b[j] ≠ 0 := by simpa using hc8
   exact ⟨by rw [jcy (j := j) (by omega) (by omega) hall, List.drop_eq_getElem_cons hlt, List.drop_eq_getElem_cons hlt2, jcJ, if_pos hne]; rfl, H.below⟩
  have hne : jeC a[j] b[j] = 0 := by simpa using hc8
  have heq : a[j] = b[j] := by
   unfold jeC at hne
   split at hne
   ·cases hne
   ·split at hne
    ·cases hne
    ·omega
  refine Y.k<|Y.r<|Y.P rfl<|Y.a rfl<|Y.z ?_
  exact ⟨Y.ag, k - 1, by omega, j + 1, by omega, rfl, by omega, (fun i h1 h2 h3 => by
   rcases Nat.lt_or_eq_of_le (Nat.le_of_lt_succ h3) with h | rfl
   ·exact hall i h1 h2 h
   ·exact heq), H⟩
 have hj : j = a.length := by simp at hc2; omega
 refine WP.exit<|XB.hit<|Y.qq<|Y.sS rfl<|Y.E rfl<|Y.sS rfl<|Y.E rfl<|Y.lt rfl<|Y.z ?_
 refine WP.cond rfl (fun hc11 => ?_) (fun hc11 => ?_)
 ·refine Y.qr<|Y.bz rfl ?_
  refine WP.ret ⟨_, rfl, ?_⟩
  have h : a.length < b.length := by simpa using hc11
  exact ⟨by rw [jcy (j := j) (by omega) (by omega) hall, hj, List.drop_length, List.drop_eq_getElem_cons h]; rfl, H.below⟩
 refine Y.k<|Y.qr<|Y.bz rfl ?_
 refine WP.ret ⟨_, rfl, ?_⟩
 have h : ¬ a.length < b.length := by simpa using hc11
 exact ⟨by rw [jcy (j := j) (by omega) (by omega) hall, hj, List.drop_length, List.drop_eq_nil_of_le (show b.length ≤ a.length by omega)]; rfl, H.below⟩
end Go.Proofs.YtgcokllbophkkaaGreat
namespace Go.Proofs.YtgcokllbophkkaaGreat
open Go Go.W Go.RowKit
theorem jfg {w : World} {b : Nat} : ∀ (l : List Int) (o : Nat), k9 w (some ⟨b, o, none⟩) l → jak w b o (l.map I)
 | [], _, _ => trivial
 | x :: l, o, h => by
  obtain ⟨b0, o0, e, h1⟩ := h 0 (by simp)
  cases e
  refine ⟨by simpa using h1, jfg l (o + 1) fun k hk => ?_⟩
  obtain ⟨b1, o1, e1, h2⟩ := h (k + 1) (by simpa using hk)
  cases e1
  exact ⟨_, _, rfl, by rw [show o + 1 + k = o + (k + 1) by omega]; simpa using h2⟩
theorem jmV {w : World} {A : Option Addr} {l : List Int} (h : k9 w A l) : l.length = 0 ∨ ∃ b o, A = some ⟨b, o, none⟩ ∧ jak w b o (l.map I) := by
 rcases Nat.eq_zero_or_pos l.length with h0 | h0
 ·exact .inl h0
 ·obtain ⟨b, o, rfl, _⟩ := h 0 h0
  exact .inr ⟨b, o, rfl, jfg l o h⟩
theorem intsOne (l : List Int) : ((l.map I).all (·.oneCell')) = true := by rw [List.all_eq_true]; intro v hv; obtain ⟨x, _, rfl⟩ := List.mem_map.1 hv; rfl
theorem jhw (A : Option Addr) (l : List Int) (cap : Nat) (w0 : World) (hz : k9 w0 A l) (hl : l.length ≤ 1000) (hA : A = none → cap = 0) :
  Calls Tryz.prog 49 #[.slice A l.length cap] w0 fun e w' => ∃ (A' : Option Addr) (c : Nat) (Lo : List Blk), e = .returned (.slice A' l.length c) ∧ OwnS A' c l.length (l.map I) 3 1 Lo ∧ SH w0 [] w' Lo := by
 have H := SH.refl w0
 have hn : A = none → l = [] := fun h => by
  cases l with
  | nil => rfl
  | cons x l => obtain ⟨b, o, e, _⟩ := hz 0 (by simp); rw [h] at e; cases e
 refine Calls.ofWP Tryz.func49 rfl Tryz.results49 Tryz.ntmps49 rfl<|Y.qr<|Y.aS rfl<|Y.z<|Y.qq<|Y.sS rfl<|Y.v (Ev.eqlSn Tryz.runUnderlying32 rfl rfl)<|Y.z ?_
 refine WP.cond rfl (fun hc1 => ?_) (fun hc1 => ?_)
 ·refine Y.qr<|Y.aS rfl<|Y.z ?_
  refine WP.ret ⟨_, rfl, ?_⟩
  have h : A = none := by simpa using hc1
  obtain rfl := hn h
  obtain rfl := hA h
  exact ⟨none, 0, [], rfl, OwnS.nil, H⟩
 refine Y.k<|Y.qr<|OPS.buildSlice rfl rfl rfl rfl (jkI (e := fun _ => .int .i64 0)) H ?_
 clear H; intro g5 w H
 refine Y.sS rfl<|OPS.appendE (m := l.length) (news := l.map I) (R := []) rfl rfl rfl rfl rfl (z8 rfl) rfl rfl OwnS.mt (by simp) (jmV (hz.sh H)) (intsOne l) (by omega) (by unfold maxLen; omega) H (List.Perm.refl _) ?_
 clear H; intro A' c Lo w hO H
 refine Y.aS rfl<|Y.z ?_
 refine WP.ret ⟨_, rfl, ?_⟩
 rw [Nat.zero_add] at hO
 exact ⟨A', c, Lo, by rw [Nat.zero_add]; rfl, by simpa using hO, by simpa using H⟩
def mvL (ns : List z6) (rn : List Int) : Int := (rn.map fun i => jdR (jaw ns i).move).sum
theorem jfV (ns : List z6) (rn : List Int) (i : Int) : mvL ns (rn ++ [i]) = mvL ns rn + jdR (jaw ns i).move := by unfold mvL; rw [List.map_append, List.sum_append]; simp
theorem jh9 {ns : List z6} (hm : ∀ x ∈ ns, -32 ≤ x.move ∧ x.move ≤ 32) : ∀ (rn : List Int), 0 ≤ mvL ns rn ∧ mvL ns rn ≤ 32 * rn.length
 | [] => by simp [mvL]
 | i :: rn => by
  have ih := jh9 hm rn
  have h1 : -32 ≤ (jaw ns i).move ∧ (jaw ns i).move ≤ 32 := by
   unfold jaw
   by_cases h : i.toNat < ns.length
   ·have := hm ns[i.toNat] (List.getElem_mem h)
    rw [List.getD_eq_getElem?_getD, List.getElem?_eq_getElem h]; exact this
   ·rw [List.getD_eq_getElem?_getD, List.getElem?_eq_none (by omega)]; exact ⟨by decide, by decide⟩
  have h2 : mvL ns (i :: rn) = jdR (jaw ns i).move + mvL ns rn := by unfold mvL; simp
  rw [h2]
  have h3 : 0 ≤ jdR (jaw ns i).move ∧ jdR (jaw ns i).move ≤ 32 := by unfold jdR; omega
  simp only [List.length_cons]
  omega
theorem jcY {ns : List z6} {i : Nat} (h : i < ns.length) : jaw ns (i : Int) = ns[i] := by unfold jaw; simp [h]
theorem jex (n hd : Int) (A B C R : Option Addr) (l : List Edg) (ts : List q9) (ns : List z6) (rn : List Int) (ca cb cc cr : Nat) (w0 : World) (hn : k8 2 j8 w0 C ns) (hm : ∀ x ∈ ns, -32 ≤ x.move ∧ x.move ≤ 32) (hr : k9 w0 R rn) (hrl : rn.length ≤ 1000) (hin : ∀ i ∈ rn, 0 ≤ i ∧ i < ns.length) :
  Calls Tryz.prog 107 #[.agg #[I n, .slice A l.length ca, .slice B ts.length cb, .slice C ns.length cc, I hd], .slice R rn.length cr] w0 fun e w' => e = .returned (I (mvL ns rn)) ∧ Below w0.heap.size w0 w' := by
 have H := SH.refl w0
 refine Calls.ofWP Tryz.func107 rfl Tryz.results107 Tryz.ntmps107 rfl<|Y.qr<|Y.bx (cA rfl) H ?_
 clear H; intro g2 w H
 refine Y.bz rfl<|Y.qr<|Y.bz rfl<|Y.qq<|Y.sS rfl<|Y.E rfl<|Y.a rfl<|Y.z<|WP.block<|WP.loop [5, 7, 10, 11, 12, 13, 14, 15, 16, 17, 18, 19, 20, 21, 22, 23, 24, 25, 26, 27, 28, 29, 30] (fun k e w' => ∃ (j : Nat), j + k = rn.length ∧ e 10 = I j ∧ e 5 = I (mvL ns (rn.take j)) ∧ SH w0 [] w' [⟨g2, 28, [I n, .slice A l.length ca, .slice B ts.length cb, .slice C ns.length cc, I hd]⟩]) (rn.length) (⟨0, by omega, rfl, rfl, H⟩) ?_
 clear H
 rintro k u w ⟨j, hk, h10, h5, H⟩
 refine WP.know (t := 10) h10 (WP.know (t := 5) h5 ?_)
 refine Y.qr<|Y.lt rfl<|Y.z<|Y.q ?_
 refine WP.cond rfl (fun hc3 => ?_) (fun hc3 => ?_)
 ·have hlt : j < rn.length := by simpa using hc3
  obtain ⟨br, orr, rfl, hx⟩ := hr j hlt
  have hir := hin rn[j] (List.getElem_mem hlt)
  obtain ⟨i, hi⟩ := Int.eq_ofNat_of_zero_le hir.1
  rw [hi] at hx
  have hil : i < ns.length := by omega
  obtain ⟨bn, on, rfl, hy⟩ := hn i hil
  have hmv := hm ns[i] (List.getElem_mem hil)
  have hbd := jh9 hm (rn.take j)
  have htl : (rn.take j).length = j := by rw [List.length_take]; omega
  have hsn := jfV ns (rn.take j) rn[j]
  rw [← List.take_succ_eq_append_getElem hlt, hi, jcY hil] at hsn
  generalize ns[i] = x at *
  refine Y.k<|Y.q<|WP.block<|Y.qr<|Y.I rfl<|Y.v (Y.c (H.ld0 (by assumption)) rfl) ?_
  refine Y.bz rfl<|WP.rstill mixed (by kernel_rfl) H ?_
  clear H; intro w hbw5 H
  obtain ⟨q1, q2, _⟩ := k7 H hy
  refine Y.a rfl<|Y.W H 0 rfl<|Y.a rfl<|Y.U rfl<|Y.F rfl<|Y.v (Y.c (by assumption) rfl) ?_
  refine Y.W H 0 rfl<|Y.a rfl<|Y.U rfl<|Y.F rfl<|Y.v (Y.c (by assumption) rfl) ?_
  refine Y.v (Ev.neg rfl (by unfold fits; omega))<|Y.v (Ev.max rfl rfl)<|Y.P rfl<|Y.b rfl<|OPS.nil_s<|Y.r<|Y.P rfl<|Y.a rfl<|Y.z ?_
  exact ⟨Y.ag, k - 1, by omega, j + 1, by omega, rfl, (by rw [hsn]; rfl), H⟩
 refine WP.exit<|XB.hit<|Y.qr<|Y.a rfl<|Y.bz rfl ?_
 refine WP.ret ⟨_, rfl, ?_⟩
 have hj : j = rn.length := by simp at hc3; omega
 rw [hj, List.take_length]
 exact ⟨rfl, H.below⟩
end Go.Proofs.YtgcokllbophkkaaGreat
namespace Go.Proofs.YtgcokllbophkkaaGreat
open Go Go.W Go.RowKit
def jbH (A : Option Addr) (n c : Nat) (m d : Int) (ok : Bool) : List Value := [.slice A n c, I m, I d, .bool ok]
theorem GB.u {want : Bool} : GB undef want false := ⟨by simp [undef]⟩
theorem betterN (v1 v2 v3 : Value) (A : Option Addr) (n c : Nat) (m d : Int) (x1 : Option Addr) (x2 x3 : Nat) (x4 x5 : Int) (w0 : World) :
  Calls Tryz.prog 83 #[.agg (jbH x1 x2 x3 x4 x5 false).toArray, .agg (jbH A n c m d true).toArray] w0 fun e w' => e = .returned (.agg (jbH A n c m d true).toArray) ∧ Below w0.heap.size w0 w' := by
 have H := SH.refl w0
 unfold jbH
 refine Calls.ofWPc Tryz.func83 rfl Tryz.results83 Tryz.ntmps83 rfl<|Y.qr<|Y.bx (cA rfl) H ?_
 clear H; intro g2 w H
 refine Y.bx (cA rfl) H ?_
 clear H; intro g3 w H
 refine Y.al H rfl rfl ?_
 clear H; intro g4 w H
 refine Y.z<|Y.q<|Y.q<|WP.rquiet mixed (by kernel_rfl) H ?_
 clear H; intro w hbw1 H
 refine Y.W H 2 rfl<|Y.v (Ev.not rfl)<|Y.B rfl<|OPS.gnoN rfl rfl (GB.b (b := true) rfl) rfl rfl<|OPS.gnoN rfl rfl (GB.b (b := true) rfl) rfl rfl<|OPS.gnoN rfl rfl (GB.b (b := true) rfl) rfl rfl<|OPS.gnoN rfl rfl GB.u rfl rfl<|OPS.gnoN rfl rfl GB.u rfl rfl<|OPS.gnoN rfl rfl GB.u rfl rfl<|OPS.gnoN rfl rfl GB.u rfl rfl<|OPS.gnoN rfl rfl GB.u rfl rfl<|OPS.gnoN rfl rfl GB.u rfl rfl<|OPS.gnoN rfl rfl GB.u rfl rfl<|OPS.gnoN rfl rfl GB.u rfl rfl<|OPS.gnoN rfl rfl GB.u rfl rfl<|OPS.gnoN rfl rfl GB.u rfl rfl<|OPS.gnoN rfl rfl GB.u rfl rfl<|OPS.gnoN rfl rfl GB.u rfl rfl<|OPS.gnoN rfl rfl GB.u rfl rfl<|OPS.gnoN rfl rfl GB.u rfl rfl<|OPS.gnoN rfl rfl GB.u rfl rfl<|OPS.gnoN rfl rfl GB.u rfl rfl<|OPS.gnoN rfl rfl GB.u rfl rfl<|OPS.gnoN rfl rfl GB.u rfl rfl<|OPS.gnoN rfl rfl (GB.b (b := true) rfl) rfl rfl<|Y.v (Ev.pick (b := true) rfl)<|OPS.nilq H ?_
 clear H; intro w hbx1 H
 refine Y.i rfl (fun hc1 => ?_) fun hc1 => ?_
 ·refine Y.qr<|Y.O H 1 rfl<|Y.ss 0 H rfl (cA rfl) rfl ?_
  clear H; intro w H
  refine Y.z ?_
  refine WP.ret ⟨[_], ⟨(by exact x6 0 H rfl (j6 rfl) (j4 rfl) (by rfl) rfl), trivial⟩, ?_⟩
  exact ⟨rfl, H.below⟩
 refine Y.k<|Y.qr<|Y.O H 2 rfl<|Y.ss 0 H rfl (cA rfl) rfl ?_
 clear H; intro w H
 refine Y.z ?_
 refine WP.ret ⟨[_], ⟨(by exact x6 0 H rfl (j6 rfl) (j4 rfl) (by rfl) rfl), trivial⟩, ?_⟩
 cases hc1
theorem betterY (A : Option Addr) (a : List Int) (ca : Nat) (ma da : Int) (B : Option Addr) (b : List Int) (cb : Nat) (mb db : Int) (w0 : World) (ha : k9 w0 A a) (hb : k9 w0 B b) (hal : a.length ≤ 1000) (hbl : b.length ≤ 1000) :
  Calls Tryz.prog 83 #[.agg (jbH A a.length ca ma da true).toArray, .agg (jbH B b.length cb mb db true).toArray] w0 fun e w' => e = .returned (if orI [jeC ma mb, jeC db da, jcJ b a] < 0 then .agg (jbH B b.length cb mb db true).toArray else .agg (jbH A a.length ca ma da true).toArray) ∧ Below w0.heap.size w0 w' := by
 have H := SH.refl w0
 unfold jbH
 refine Calls.ofWPc Tryz.func83 rfl Tryz.results83 Tryz.ntmps83 rfl<|Y.qr<|Y.bx (cA rfl) H ?_
 clear H; intro g2 w H
 refine Y.bx (cA rfl) H ?_
 clear H; intro g3 w H
 refine Y.al H rfl rfl ?_
 clear H; intro g4 w H
 refine Y.z<|Y.q<|Y.q ?_
 refine WP.rheldC [5, 6, 7, 8, 9, 10, 11, 12, 13, 14, 15, 16, 17, 18, 19, 20, 21, 22, 23, 24, 25, 26, 27, 28, 29, 30, 31] (fun u w' => u 31 = .bool (decide (orI [jeC ma mb, jeC db da, jcJ b a] < 0)) ∧ SH w0 [] w' [⟨g4, 136, [.slice none 0 0, I 0, I 0, .bool false]⟩, ⟨g3, 136, [.slice B b.length cb, I mb, I db, .bool true]⟩, ⟨g2, 136, [.slice A a.length ca, I ma, I da, .bool true]⟩]) mixed H ?_ ?_
 ·clear H; intro w hbw1 H
  refine Y.tf 0 H rfl<|Y.tl 1 H 2 rfl<|Y.t 2 H rfl rfl (fun w H => Ev.not rfl)<|Y.t 3 H rfl rfl (fun w H => Ev.mvB rfl)<|OPH.takeY 4 rfl rfl rfl rfl rfl rfl (by kernel_rfl) (by kernel_rfl) (by kernel_rfl) rfl (H) (fun w H => Ev.fieldAddr (jaf rfl) rfl) ?_
  refine OPH.takeY 5 rfl rfl rfl rfl rfl rfl (by kernel_rfl) (by kernel_rfl) (by kernel_rfl) rfl (H) (fun w H => Ev.load1 (j6 rfl) rfl (H.ldL 1 rfl _ rfl)) ?_
  refine OPH.takeY 6 rfl rfl rfl rfl rfl rfl (by kernel_rfl) (by kernel_rfl) (by kernel_rfl) rfl (H) (fun w H => Ev.mvB rfl) ?_
  refine OPH.takeY 7 rfl rfl rfl rfl rfl rfl (by kernel_rfl) (by kernel_rfl) (by kernel_rfl) rfl (H) (fun w H => Ev.fieldAddr (jaf rfl) rfl) ?_
  refine OPH.takeY 8 rfl rfl rfl rfl rfl rfl (by kernel_rfl) (by kernel_rfl) (by kernel_rfl) rfl (H) (fun w H => Ev.load1 (j6 rfl) rfl (H.ldL 2 rfl _ rfl)) ?_
  refine OPH.takeY 9 rfl rfl rfl rfl rfl rfl (by kernel_rfl) (by kernel_rfl) (by kernel_rfl) rfl (H) (fun w H => Ev.fieldAddr (jaf rfl) rfl) ?_
  refine OPH.takeY 10 rfl rfl rfl rfl rfl rfl (by kernel_rfl) (by kernel_rfl) (by kernel_rfl) rfl (H) (fun w H => Ev.load1 (j6 rfl) rfl (H.ldL 1 rfl _ rfl)) ?_
  refine OPH.takeY 12 rfl rfl rfl rfl rfl rfl (by kernel_rfl) (by kernel_rfl) (by kernel_rfl) rfl (H) (fun w H => Ev.fieldAddr (jaf rfl) rfl) ?_
  refine OPH.takeY 13 rfl rfl rfl rfl rfl rfl (by kernel_rfl) (by kernel_rfl) (by kernel_rfl) rfl (H) (fun w H => Ev.load1 (j6 rfl) rfl (H.ldL 1 rfl _ rfl)) ?_
  refine OPH.takeY 14 rfl rfl rfl rfl rfl rfl (by kernel_rfl) (by kernel_rfl) (by kernel_rfl) rfl (H) (fun w H => Ev.fieldAddr (jaf rfl) rfl) ?_
  refine OPH.takeY 15 rfl rfl rfl rfl rfl rfl (by kernel_rfl) (by kernel_rfl) (by kernel_rfl) rfl (H) (fun w H => Ev.load1 (j6 rfl) rfl (H.ldL 2 rfl _ rfl)) ?_
  refine OPH.takeY 17 rfl rfl rfl rfl rfl rfl (by kernel_rfl) (by kernel_rfl) (by kernel_rfl) rfl (H) (fun w H => Ev.fieldAddr (jaf rfl) rfl) ?_
  refine OPH.takeY 18 rfl rfl rfl rfl rfl rfl (by kernel_rfl) (by kernel_rfl) (by kernel_rfl) rfl (H) (fun w H => Ev.load1 (j6 rfl) rfl (H.ldL 1 rfl _ rfl)) ?_
  refine OPH.takeY 19 rfl rfl rfl rfl rfl rfl (by kernel_rfl) (by kernel_rfl) (by kernel_rfl) rfl (H) (fun w H => Ev.fieldAddr (jaf rfl) rfl) ?_
  refine OPH.takeY 20 rfl rfl rfl rfl rfl rfl (by kernel_rfl) (by kernel_rfl) (by kernel_rfl) rfl (H) (fun w H => Ev.load1 (j6 rfl) rfl (H.ldL 2 rfl _ rfl)) ?_
  refine Y.A1 11 rfl rfl<|OPS.gyes rfl rfl rfl rfl<|Y.c2 16 rfl (jeo ma mb w) ?_
  rintro _ w ⟨rfl, hb'⟩
  refine ⟨_, rfl, ?_⟩
  replace H := H.toBelow hb'; clear hb'
  refine Y.z <| ⟨(H), ?_⟩
  refine Y.A1 16 rfl rfl<|OPS.gyes rfl rfl rfl rfl<|Y.c2 21 rfl (jeo db da w) ?_
  rintro _ w ⟨rfl, hb'⟩
  refine ⟨_, rfl, ?_⟩
  replace H := H.toBelow hb'; clear hb'
  refine Y.z <| ⟨(H), ?_⟩
  refine Y.A1 21 rfl rfl<|OPS.gyes rfl rfl rfl rfl<|Y.c2 26 rfl (jkN B A b a cb ca w (hb.sh H) (ha.sh H) hbl hal) ?_
  rintro _ w ⟨rfl, hb'⟩
  refine ⟨_, rfl, ?_⟩
  replace H := H.toBelow hb'; clear hb'
  refine Y.z <| ⟨(H), ?_⟩
  refine Y.A1 22 rfl rfl<|OPS.gyes rfl rfl rfl rfl<|OPS.buildSlice rfl rfl rfl rfl (jft rfl rfl rfl) H ?_
  clear H; intro g27 w E
  have H := E.drop Y.sc
  refine Y.z <| ⟨(H), ?_⟩
  refine Y.A1 23 rfl rfl<|OPS.gyes rfl rfl rfl rfl<|Y.c2 28 rfl (cmpOr (some ⟨g27, 0, none⟩) [jeC ma mb, jeC db da, jcJ b a] 3 w (jaa.own (l := [jeC ma mb, jeC db da, jcJ b a]) E 0 rfl (post := []) rfl) (by simp)) ?_
  rintro _ w ⟨rfl, hb'⟩
  refine ⟨_, rfl, ?_⟩
  replace H := H.toBelow hb'; clear hb'
  refine Y.z <| ⟨(H), ?_⟩
  refine OPH.takeY 24 rfl rfl rfl rfl rfl rfl (by kernel_rfl) (by kernel_rfl) (by kernel_rfl) rfl (H) (fun w H => Ev.lss rfl rfl) ?_
  refine OPH.takeY 25 rfl rfl rfl rfl rfl rfl (by kernel_rfl) (by kernel_rfl) (by kernel_rfl) rfl (H) (fun w H => Ev.pick (b := true) rfl) ?_
  refine Y.t 26 H rfl rfl (fun w H => Ev.pick (b := false) rfl)<|Y.dn ?_
  exact ⟨Y.ag, rfl, H⟩
 clear H
 rintro u w ⟨h31, H⟩
 refine WP.know (t := 31) h31 ?_
 refine Y.i rfl (fun hc1 => ?_) fun hc1 => ?_
 ·refine Y.qr<|Y.O H 1 rfl<|Y.ss 0 H rfl (cA rfl) rfl ?_
  clear H; intro w H
  refine Y.z ?_
  refine WP.ret ⟨[_], ⟨(by exact x6 0 H rfl (j6 rfl) (j4 rfl) (by rfl) rfl), trivial⟩, ?_⟩
  have h : orI [jeC ma mb, jeC db da, jcJ b a] < 0 := by simpa using hc1
  exact ⟨by rw [if_pos h]; rfl, H.below⟩
 refine Y.k<|Y.qr<|Y.O H 2 rfl<|Y.ss 0 H rfl (cA rfl) rfl ?_
 clear H; intro w H
 refine Y.z ?_
 refine WP.ret ⟨[_], ⟨(by exact x6 0 H rfl (j6 rfl) (j4 rfl) (by rfl) rfl), trivial⟩, ?_⟩
 have h : ¬ orI [jeC ma mb, jeC db da, jcJ b a] < 0 := by simpa using hc1
 exact ⟨by rw [if_neg h]; rfl, H.below⟩
end Go.Proofs.YtgcokllbophkkaaGreat
namespace Go.Proofs.YtgcokllbophkkaaGreat
open Go Go.W Go.RowKit
theorem revOwn (g : Nat) (pre zs : List Int) (sp : List Value) (cap : Nat) (w0 : World) (hb : w0.heap[g]? = some (.cells ((pre ++ zs).map I ++ sp).toArray 3 (0, 0))) (hlen : zs.length ≤ 1000000) :
  Calls Tryz.prog 129 #[.slice (some ⟨g, pre.length, none⟩) zs.length cap] w0 fun e w' => e = .returned (.tuple #[]) ∧ SH w0 [g] w' [⟨g, 3, (pre ++ zs.reverse).map I ++ sp⟩] := by
 have hg : g < w0.heap.size := (Array.getElem?_eq_some_iff.1 hb).1
 have hH : Sort.Holds (Value.int .i64) w0 g pre.length zs.toArray := fun j hj => by
  have hj' : j < zs.length := by simpa using hj
  refine ⟨?_, by simp [World.frozen?, hb]⟩
  simp only [World.cell?, hb]
  simp only [Option.isSome_none, Bool.false_eq_true, if_false]
  rw [← Array.getElem?_toList]
  simp [hj', List.getElem?_append]
 refine (Tryz.slices_Reverse_int g pre.length cap zs w0 hH (by omega)).mono ?_
 rintro e w' ⟨rfl, n, rfl⟩
 have hcells : Sort.putCells (Value.int .i64) pre.length zs.reverse.toArray ((pre ++ zs).map I ++ sp).toArray = ((pre ++ zs.reverse).map I ++ sp).toArray := by
  apply Array.ext_getElem?
  intro k
  simp only [Sort.putCells, Array.getElem?_mapIdx, List.getElem?_toArray, List.map_append, List.append_assoc]
  by_cases h1 : k < pre.length
  ·rw [List.getElem?_append_left (l₁ := pre.map I) (by simpa using h1), List.getElem?_append_left (l₁ := pre.map I) (by simpa using h1)]
   simp [h1, show ¬ pre.length ≤ k by omega]
  ·rw [List.getElem?_append_right (l₁ := pre.map I) (by simp; omega), List.getElem?_append_right (l₁ := pre.map I) (by simp; omega), List.length_map]
   by_cases h2 : k < pre.length + zs.length
   ·have h3 : k - pre.length < zs.length := by omega
    rw [List.getElem?_append_left (l₁ := zs.map I) (by simpa using h3), List.getElem?_append_left (l₁ := zs.reverse.map I) (by simpa using h3)]
    simp [h2, h3, show pre.length ≤ k by omega]
   ·rw [List.getElem?_append_right (l₁ := zs.map I) (by simp; omega), List.getElem?_append_right (l₁ := zs.reverse.map I) (by simp; omega), List.length_map, List.length_map, List.length_reverse]
    cases sp[k - pre.length - zs.length]? with
    | none => rfl
    | some v => simp [h2]
 have hh : (Sort.putRow (Value.int .i64) (Sort.ahead w0 n) g pre.length zs.reverse.toArray).heap[g]? = some (.cells ((pre ++ zs.reverse).map I ++ sp).toArray 3 (0, 0)) := by
  rw [← hcells]
  simp [Sort.putRow, Sort.mapBlock, Sort.ahead, Array.getElem?_modify, hb, Sort.onCells]
 refine ⟨rfl, rfl, rfl, rfl, by simp [Sort.putRow, Sort.mapBlock, Sort.ahead], fun k hk hS => ?_, fun b hb => ?_, fun b hb => ?_, by simp⟩
 ·have : g ≠ k := fun e => hS (by simp [e])
  simp [Sort.putRow, Sort.mapBlock, Sort.ahead, Array.getElem?_modify, this]
 ·obtain rfl : b = ⟨g, 3, (pre ++ zs.reverse).map I ++ sp⟩ := by simpa using hb
  exact hh
 ·obtain rfl : b = ⟨g, 3, (pre ++ zs.reverse).map I ++ sp⟩ := by simpa using hb
  exact .inr (by simp)
theorem jeO (l : List Int) (sp : List Value) (i : Nat) (x : Int) (hi : i < l.length) : jam (l.map I ++ sp) (0 + i) [I x] = (l.set i x).map I ++ sp := by
 simp [jam, List.set_append_left _ _ (show i < (l.map I).length by simpa using hi), List.map_set]
theorem jhW {σ : Type} (R : σ → List Blk → Prop) (vis : σ → List Int → σ) (F : Nat) (caps : List Value) (wB : World) (hfun : jhU F = true) (l : List Int)
  (hvis : ∀ s Lv w A o c, Below wB.heap.size wB w → R s Lv → SH w (Lv.map (·.g)) w Lv → k9 w A o → (A = none → c = 0) → o.length ≤ c → o.Perm l →
   Calls Tryz.prog F ([Value.slice A o.length c] ++ caps).toArray w fun e w' => ∃ Lv', e = .returned (.tuple #[]) ∧ R (vis s o) Lv' ∧ SH w (Lv.map (·.g)) w' Lv')
  (A : Option Addr) (cap : Nat) (w0 : World) (hz : k9 w0 A l) (hl : l.length ≤ 16) (hnd : l.Nodup) (hrg : ∀ x ∈ l, 0 ≤ x ∧ x < 64)
  (s0 : σ) (Lv0 : List Blk) (hR0 : R s0 Lv0) (H0 : SH w0 (Lv0.map (·.g)) w0 Lv0) (hB : Below wB.heap.size wB w0) (hLv : ∀ g ∈ Lv0.map (·.g), wB.heap.size ≤ g) :
  Calls Tryz.prog 105 #[.slice A l.length cap, .func (.func F) #[] caps.toArray] w0 fun e w' => ∃ (V : List (List Int)) (Lv' : List Blk), e = .returned (.tuple #[]) ∧ (∀ o, o ∈ V ↔ o.Perm l) ∧ R (V.foldl vis s0) Lv' ∧ SH w0 (Lv0.map (·.g)) w' Lv' := by
 obtain ⟨S, hS⟩ : ∃ S, S = Lv0.map (·.g) := ⟨_, rfl⟩
 rw [← hS] at H0 hLv ⊢
 have hbel : ∀ {w : World} {L : List Blk}, SH w0 S w L → Below wB.heap.size wB w := fun {w L} H =>
  ⟨H.os.trans hB.os, H.tape.trans hB.tape, H.output.trans hB.output, Nat.le_trans hB.size H.size, fun k hk => (H.low k (Nat.lt_of_lt_of_le hk hB.size) (fun hm => by have := hLv k hm; omega)).trans (hB.block k hk)⟩
 have H := H0
 have hsl := jeS l
 have hsp := jeL l
 refine Calls.ofWP Tryz.func105 rfl Tryz.results105 Tryz.ntmps105 rfl<|WP.scope<|Y.qr<|Y.sS rfl<|Y.c2 7 rfl (jiw A l.length cap w0) ?_
 rintro _ w ⟨gv, rfl, Hc⟩
 refine ⟨_, rfl, ?_⟩
 have hz1 := hz.sh Hc
 have hg1 := Hc.own ⟨gv, 32, [.slice A l.length cap]⟩ (by simp)
 replace H := SH.call (L1 := Lv0) (Lv := []) (by simpa using H) (by simpa using Hc.drop Y.sn)
 clear Hc
 refine Y.c2 8 rfl (jiy gv A l cap w hz1 (by omega) (by simpa using hg1)) ?_
 rintro _ w ⟨A', c, Lo, rfl, hO, Hc⟩
 refine ⟨_, rfl, ?_⟩
 replace H := SH.call (L1 := Lv0) (Lv := []) (by simpa using H) Hc
 clear Hc hz1 hg1
 have hA : A' = none → c = 0 := fun h => by
  rcases hO.form with ⟨_, _, h2, _⟩ | ⟨g, sp, h2, _⟩
  ·exact h2
  ·rw [h] at h2; cases h2
 rw [← hsl] at hO
 have hmet := Met.start hsp (by
  have h1 := jfy l
  have h2 := List.nodup_iff_pairwise_ne.1 (hsp.nodup_iff.2 hnd)
  exact (h1.and h2).imp fun h => by omega)
 rw [← hsl]
 refine Y.aS rfl<|Y.z<|Y.q<|WP.label<|WP.block<|WP.loop [4, 5, 9, 10, 11, 12, 13, 14, 15, 16, 17, 18, 19, 20, 21, 22, 23, 24, 25, 26, 27, 28, 29, 30, 31, 32, 33, 34, 35, 36, 37, 38, 39, 40, 41, 42, 43, 44, 45, 46, 47, 48, 49, 50, 51, 52, 53, 54] (fun k e w' => ∃ (cur : List Int) (V : List (List Int)) (Lv Lo : List Blk), k = 64 ^ cur.length - jli cur ∧ cur.length = (srt l).length ∧ Met l cur V ∧ OwnS A' c cur.length (cur.map I) 3 1 Lo ∧ R (V.foldl vis s0) Lv ∧ SH w0 S w' (Lv ++ Lo)) ((64 ^ (srt l).length - jli (srt l))) (⟨srt l, [], Lv0, Lo, rfl, rfl, hmet, hO, hR0, H⟩) ?_
 clear H hO hmet
 rintro k u w ⟨cur, V, Lv, Lo, hk, hcl, hmet, hO, hR, H⟩
 rw [← hcl]
 have hpc := hmet.perm
 have hndc : cur.Nodup := hpc.nodup_iff.2 hnd
 have hrgc : ∀ x ∈ cur, 0 ≤ x ∧ x < 64 := fun x hx => hrg x (hpc.mem_iff.1 hx)
 have hcl16 : cur.length ≤ 16 := by rw [hcl, hsl]; exact hl
 have hlec : cur.length ≤ c := by
  rcases hO.form with ⟨_, h, _⟩ | ⟨_, _, _, _, h, _⟩
  ·omega
  ·exact h
 refine WP.block<|Y.qr<|Y.v (Ev.mvF rfl)<|Y.sS rfl<|OPS.call (d := some 11) rfl rfl rfl (EvC.clos rfl (z7 (by assumption))) (hvis (V.foldl vis s0) Lv w A' cur c (hbel H) hR (H.restart Y.sl) (hO.ones H).1 hA hlec hpc) ?_
 rintro _ w ⟨Lv', rfl, hR', Hc⟩
 refine ⟨_, rfl, ?_⟩
 replace H := (SH.call (L1 := Lo) (Lv := Lv) (H.perm List.perm_append_comm) Hc).perm List.perm_append_comm
 clear Hc hR
 have hR2 : R ((V ++ [cur]).foldl vis s0) Lv' := by rw [List.foldl_append]; exact hR'
 refine Y.z<|Y.qq<|Y.sS rfl<|Y.E rfl<|Y.Q rfl<|Y.bz rfl<|WP.block<|WP.loop [4, 5, 15, 16, 17, 18, 19, 20, 21, 22, 23, 24, 25, 26, 27, 28, 29, 30, 31, 32, 33, 34, 35, 36, 37, 38, 39, 40, 41, 42, 43, 44, 45, 46, 47, 48, 49, 50, 51, 52, 53, 54] (fun k e w' => ∃ (i : Int), e 4 = I i ∧ k = (i + 2).toNat ∧ -2 ≤ i ∧ i ≤ (cur.length : Int) - 2 ∧ jnm cur (i + 1).toNat ∧ SH w0 S w' (Lv' ++ Lo)) (cur.length) (⟨(cur.length : Int) - 2, rfl, by omega, by omega, by omega, fun a b h1 h2 h3 => by omega, H⟩) ?_
 clear H
 rintro k3 u3 w ⟨i, h4, hk3, hi2, hil, hfall, H⟩
 refine WP.know (t := 4) h4<|Y.qq<|Y.a rfl<|Y.v (Ev.geq rfl rfl)<|Y.z ?_
 refine WP.cond rfl (fun hc3 => ?_) (fun hc3 => ?_)
 ·have hi0 : 0 ≤ i := by simpa using hc3
  obtain ⟨i, rfl⟩ := Int.eq_ofNat_of_zero_le hi0
  have hfall' : jnm cur (i + 1) := by simpa using hfall
  refine Y.k<|Y.q<|WP.block<|Y.qr<|Y.sS rfl<|Y.E rfl<|Y.Q rfl<|Y.bz rfl<|WP.block<|WP.loop [5, 22, 23, 24, 25, 26, 27, 28, 29, 30, 31, 32, 33, 34, 35, 36, 37, 38, 39, 40, 41, 42, 43, 44, 45, 46, 47, 48, 49, 50, 51, 52, 53, 54] (fun k e w' => ∃ (j : Nat), e 5 = I j ∧ k = j ∧ i ≤ j ∧ j < cur.length ∧ (∀ q, j < q → q < cur.length → ¬ cur.getD i 0 < cur.getD q 0) ∧ SH w0 S w' (Lv' ++ Lo)) ((cur.length - 1)) (⟨cur.length - 1, by show I ((cur.length : Int) - 1) = _; congr 1; omega, rfl, by omega, by omega, fun q h1 h2 => by omega, H⟩) ?_
  clear H
  rintro k6 u6 w ⟨j, h5, hk6, hij, hjl, hno, H⟩
  refine WP.know (t := 5) h5<|Y.qq<|Y.a rfl<|Y.a rfl<|Y.v (Ev.gtr rfl rfl)<|Y.z ?_
  refine WP.cond rfl (fun hc6 => ?_) (fun hc6 => ?_)
  ·have hlt : i < j := by simpa using hc6
   obtain ⟨g, sp, hAe, hLo, o1, o2, o3⟩ : ∃ g sp, A' = some ⟨g, 0, none⟩ ∧ Lo = [⟨g, 3, cur.map I ++ sp⟩] ∧ cur.length ≤ c ∧ c ≤ maxLen ∧ (cur.map I ++ sp).length = c * 1 := by
    rcases hO.form with ⟨_, h, _⟩ | h
    ·omega
    ·exact h
   have hgi := jem (show i < cur.length by omega)
   have hgj := jem (show j < cur.length by omega)
   have hcell : ∀ (w : World), SH w0 S w (Lv' ++ Lo) → ∀ q (h : q < cur.length), w.cell? ⟨g, 0 + q, none⟩ = some (I (cur.getD q 0)) := fun w H q h => by
    obtain ⟨b, o, e, hc⟩ := (hO.ones H).1 q h
    rw [hAe] at e; cases e
    rw [jem h]; exact hc
   subst hAe
   refine Y.k<|Y.q<|WP.block<|Y.q<|WP.rstill mixed (by kernel_rfl) H ?_
   clear H; intro w hbw8 H
   have hx := hcell w H i (by omega)
   have hy := hcell w H j (by omega)
   refine Y.sS rfl<|Y.a rfl<|Y.I rfl<|Y.v (Y.c (by assumption) rfl) ?_
   refine Y.sS rfl<|Y.a rfl<|Y.I rfl<|Y.v (Y.c (by assumption) rfl) ?_
   refine Y.lt rfl<|OPS.nil_s ?_
   refine WP.cond rfl (fun hc8 => ?_) (fun hc8 => ?_)
   ·have hlx : cur.getD i 0 < cur.getD j 0 := by simpa using hc8
    subst hLo
    have hcl2 : ∀ (w : World), SH w0 S w (⟨g, 3, cur.map I ++ sp⟩ :: Lv') → ∀ q (h : q < cur.length), w.cell? ⟨g, 0 + q, none⟩ = some (I (cur.getD q 0)) := fun w H q h => by
     obtain ⟨b, o, e, hc⟩ := jaa.own (enc := I) (l := cur) (post := sp) H 0 rfl rfl q h
     cases e
     rw [jem h]; exact hc
    have Hf := H.perm (List.perm_append_singleton _ _)
    replace H := H.drop Y.sn
    have hl1 : ((swp cur i j).take (i + 1)).length = 0 + (i + 1) * 1 := by rw [List.length_take, jhX]; omega
    have hl2 : ((swp cur i j).drop (i + 1)).length = cur.length - (i + 1) := by rw [List.length_drop, jhX]
    have hrev := fun w hb => revOwn g ((swp cur i j).take (i + 1)) ((swp cur i j).drop (i + 1)) sp (c - (i + 1)) w hb (by rw [hl2]; omega)
    simp only [hl1, hl2, List.take_append_drop] at hrev
    refine Y.q ?_
    refine WP.rheldC [36, 37, 38, 39, 40, 41, 42, 43, 44, 45, 46, 47, 48, 49] (fun _ w' => SH w0 S w' (⟨g, 3, (swp cur i j).map I ++ sp⟩ :: Lv')) mixed H ?_ ?_
    ·clear H; intro w hbw9 H
     refine Y.t 0 H rfl rfl (fun w H => Ev.mvS rfl)<|Y.t 1 H rfl rfl (fun w H => Y.m rfl)<|Y.t 2 H rfl rfl (fun w H => Ev.mvS rfl)<|Y.t 3 H rfl rfl (fun w H => Y.m rfl)<|Y.t 4 H rfl rfl (fun w H => Ev.mvS rfl)<|Y.t 5 H rfl rfl (fun w H => Y.m rfl)<|Y.t 6 H rfl rfl (fun w H => Y.x rfl rfl rfl rfl)<|Y.t 8 H rfl rfl (fun w H => Ev.mvS rfl)<|Y.t 9 H rfl rfl (fun w H => Y.m rfl)<|Y.t 10 H rfl rfl (fun w H => Y.x rfl rfl rfl rfl) ?_
     refine Y.A2 7 11 rfl rfl rfl ?_ ?_
     ·try replace Hf := Hf.toBelow hbw9
      have hy := hcl2 w Hf j (by omega)
      refine Y.v (Y.c hy rfl)<|Y.z <| ⟨(H), ?_⟩
      refine Y.A1 11 rfl rfl ?_
      try replace Hf := Hf.toBelow hbw9
      have hx := hcl2 w Hf i (by omega)
      refine Y.v (Y.c hx rfl)<|Y.z <| ⟨(H), ?_⟩
      refine Y.t 12 H rfl rfl (fun w H => Y.x rfl rfl rfl rfl)<|Y.A1 13 rfl rfl<|OPS.store 0 _ rfl rfl rfl (j4 rfl) rfl (cI rfl) rfl rfl Hf rfl (by simp; omega) ?_
      clear H Hf; intro w Hf
      replace Hf : SH w0 S w (⟨g, 3, jam (cur.map I ++ sp) (0 + i) [I (cur.getD j 0)]⟩ :: Lv') := Hf
      rw [jeO _ _ _ _ (by omega)] at Hf
      have H := Hf.drop Y.sn
      refine Y.z <| ⟨(H), ?_⟩
      refine Y.t 14 H rfl rfl (fun w H => Y.x rfl rfl rfl rfl)<|Y.A1 15 rfl rfl<|OPS.store 0 _ rfl rfl rfl (j4 rfl) rfl (cI rfl) rfl rfl Hf rfl (by simp; omega) ?_
      clear H Hf; intro w Hf
      replace Hf : SH w0 S w (⟨g, 3, jam ((cur.set i (cur.getD j 0)).map I ++ sp) (0 + j) [I (cur.getD i 0)]⟩ :: Lv') := Hf
      rw [jeO _ _ _ _ (by rw [List.length_set]; omega)] at Hf
      have H := Hf.drop Y.sn
      refine Y.z <| ⟨(H), ?_⟩
      refine Y.dn ?_
      exact ⟨Y.ag, Hf⟩
     ·try replace Hf := Hf.toBelow hbw9
      have hx := hcl2 w Hf i (by omega)
      refine Y.v (Y.c hx rfl)<|Y.z <| ⟨(H), ?_⟩
      refine Y.A1 7 rfl rfl ?_
      try replace Hf := Hf.toBelow hbw9
      have hy := hcl2 w Hf j (by omega)
      refine Y.v (Y.c hy rfl)<|Y.z <| ⟨(H), ?_⟩
      refine Y.t 12 H rfl rfl (fun w H => Y.x rfl rfl rfl rfl)<|Y.A1 13 rfl rfl<|OPS.store 0 _ rfl rfl rfl (j4 rfl) rfl (cI rfl) rfl rfl Hf rfl (by simp; omega) ?_
      clear H Hf; intro w Hf
      replace Hf : SH w0 S w (⟨g, 3, jam (cur.map I ++ sp) (0 + i) [I (cur.getD j 0)]⟩ :: Lv') := Hf
      rw [jeO _ _ _ _ (by omega)] at Hf
      have H := Hf.drop Y.sn
      refine Y.z <| ⟨(H), ?_⟩
      refine Y.t 14 H rfl rfl (fun w H => Y.x rfl rfl rfl rfl)<|Y.A1 15 rfl rfl<|OPS.store 0 _ rfl rfl rfl (j4 rfl) rfl (cI rfl) rfl rfl Hf rfl (by simp; omega) ?_
      clear H Hf; intro w Hf
      replace Hf : SH w0 S w (⟨g, 3, jam ((cur.set i (cur.getD j 0)).map I ++ sp) (0 + j) [I (cur.getD i 0)]⟩ :: Lv') := Hf
      rw [jeO _ _ _ _ (by rw [List.length_set]; omega)] at Hf
      have H := Hf.drop Y.sn
      refine Y.z <| ⟨(H), ?_⟩
      refine Y.dn ?_
      exact ⟨Y.ag, Hf⟩
    clear H
    rintro u w H
    refine Y.qr<|Y.sS rfl<|Y.a rfl<|Y.P rfl<|Y.v (Ev.sliceFrom2 (j := i + 1) (x7 rfl) (j4 rfl) rfl rfl rfl (by omega) (by omega))<|Y.c2 54 rfl (hrev w (H.own _ List.mem_cons_self)) ?_
    rintro _ w ⟨rfl, Hc⟩
    refine ⟨_, rfl, ?_⟩
    replace H := SH.call (L1 := Lv') (Lv := [⟨g, 3, (swp cur i j).map I ++ sp⟩]) (H.perm (List.perm_append_singleton _ _).symm) Hc
    clear Hc
    have hstl := jj3 cur i j
    obtain ⟨hst1, hst2, _⟩ := step_ok hlt hjl hfall' hlx hno hndc
    have hen := jit hstl.symm hrgc (fun x hx => hrgc x (hst2.mem_iff.1 hx)) hst1
    have hen2 := jhB (l := jd9 cur i j) (fun x hx => hrgc x (hst2.mem_iff.1 hx))
    rw [hstl] at hen2
    refine Y.z<|WP.exit<|XB.miss rfl<|XB.miss rfl<|XB.miss rfl<|XB.miss rfl<|XB.hit ?_
    exact ⟨Y.ag, 64 ^ (jd9 cur i j).length - jli (jd9 cur i j), by rw [hstl]; omega, jd9 cur i j, V ++ [cur], Lv', _, rfl, by rw [hstl], hmet.step hlt hjl hfall' hlx hno hndc, ⟨by rw [List.length_map, hstl]; omega, .inr ⟨g, sp, rfl, rfl, by rw [hstl]; exact o1, o2, by rw [List.length_append, List.length_map, hstl]; simpa using o3⟩⟩, hR2, H⟩
   have hlx : ¬ cur.getD i 0 < cur.getD j 0 := by simpa using hc8
   refine Y.k<|Y.r<|Y.a rfl<|Y.Q rfl<|Y.bz rfl ?_
   exact ⟨Y.ag, k6 - 1, by omega, j - 1, by show I ((j : Int) - 1) = _; congr 1; omega, by omega, by omega, by omega, (fun q h1 h2 => by
    by_cases h : q = j
    ·subst h; exact hlx
    ·exact hno q (by omega) h2), H⟩
  have hij' : j = i := by simp at hc6; omega
  subst hij'
  refine WP.exit<|XB.hit<|Y.r<|Y.a rfl<|Y.Q rfl<|Y.bz rfl ?_
  exact ⟨Y.ag, k3 - 1, by omega, (j : Int) - 1, rfl, by omega, by omega, by omega, by simpa using jlc hfall' hno hndc, H⟩
 refine WP.exit<|XB.hit ?_
 refine WP.ret ⟨_, rfl, ?_⟩
 have hi1 : i < 0 := by simpa using hc3
 exact ⟨V ++ [cur], Lv', rfl, hmet.done (by rw [show (i + 1).toNat = 0 by omega] at hfall; exact hfall), hR2, H.drop Y.sl⟩
end Go.Proofs.YtgcokllbophkkaaGreat
namespace Go.Proofs.YtgcokllbophkkaaGreat
open Go Go.W Go.RowKit
theorem jh7 {m d : List Int → Int} {a b : List Int} : orI [jeC (m a) (m b), jeC (d b) (d a), jcJ b a] < 0 ↔ jcq m d a b := by
 have hl := jgD b a
 unfold jcq jeC orI orI orI orI
 by_cases h1 : m a < m b
 ·simp [h1]
 ·by_cases h2 : m b < m a
  ·simp [h1, h2]; omega
  ·have : m a = m b := by omega
   by_cases h3 : d b < d a
   ·simp [this, h3]
   ·by_cases h4 : d a < d b
    ·simp [this, h3, h4]; omega
    ·have : d a = d b := by omega
     simp [*]
     by_cases h5 : jcJ b a = 0
     ·simp [h5] at hl ⊢; simpa using hl
     ·simp [h5]; exact hl
section
variable (n : Int) (l : List Edg) (ts : List q9) (ns : List z6) (hd rt : Int)
noncomputable def jaS (o : List Int) : Int := jf3 n l ts ns hd rt o
noncomputable def jf5 (o : List Int) : Bool := decide (y7 n l ts ns hd rt o = 0)
noncomputable def jcT (s : Option (List Int)) (A : Option Addr) (c : Nat) : List Value :=
 match s with
 | none => jbH none 0 0 0 0 false
 | some x => jbH A x.length c (mvL ns x) (jaS n l ts ns hd rt x) true
theorem jbh (s : Option (List Int)) (A : Option Addr) (c : Nat) : (jcT n l ts ns hd rt s A c).length = 4 := by cases s <;> rfl
def OwnF (s : Option (List Int)) (A : Option Addr) (c : Nat) (Lf : List Blk) : Prop :=
 match s with
 | none => Lf = []
 | some x => OwnS A c x.length (x.map I) 3 1 Lf
noncomputable def ja2 (s : Option (List Int)) (y : List Int) : Bool :=
 match s with
 | none => true
 | some x => decide (jcq (mvL ns) (jaS n l ts ns hd rt) x y)
theorem jgk (s : Option (List Int)) (A : Option Addr) (c : Nat) (B : Option Addr) (y : List Int) (cb : Nat) (w0 : World) (ha : ∀ x, s = some x → k9 w0 A x ∧ x.length ≤ 1000) (hb : k9 w0 B y) (hbl : y.length ≤ 1000) :
  Calls Tryz.prog 83 #[.agg (jcT n l ts ns hd rt s A c).toArray, .agg (jcT n l ts ns hd rt (some y) B cb).toArray] w0 fun e w' => e = .returned (.agg (jcT n l ts ns hd rt (bet (mvL ns) (jaS n l ts ns hd rt) s (some y)) (if ja2 n l ts ns hd rt s y = true then B else A) (if ja2 n l ts ns hd rt s y = true then cb else c)).toArray) ∧ Below w0.heap.size w0 w' := by
 cases s with
 | none => exact betterN undef undef undef B y.length cb (mvL ns y) (jaS n l ts ns hd rt y) none 0 0 0 0 w0
 | some x =>
  obtain ⟨h1, h2⟩ := ha x rfl
  refine (betterY A x c (mvL ns x) (jaS n l ts ns hd rt x) B y cb (mvL ns y) (jaS n l ts ns hd rt y) w0 h1 hb h2 hbl).mono ?_
  rintro e w' ⟨rfl, hB⟩
  refine ⟨?_, hB⟩
  by_cases h : jcq (mvL ns) (jaS n l ts ns hd rt) x y
  ·have h' := (jh7 (m := mvL ns) (d := jaS n l ts ns hd rt)).2 h
   have ht : ja2 n l ts ns hd rt (some x) y = true := decide_eq_true h
   have hbt : bet (mvL ns) (jaS n l ts ns hd rt) (some x) (some y) = some y := if_pos h
   rw [if_pos h', if_pos ht, if_pos ht, hbt]; rfl
  ·have h' := fun q => h ((jh7 (m := mvL ns) (d := jaS n l ts ns hd rt)).1 q)
   have ht : ¬ ja2 n l ts ns hd rt (some x) y = true := by simpa [ja2] using h
   have hbt : bet (mvL ns) (jaS n l ts ns hd rt) (some x) (some y) = some x := if_neg h
   rw [if_neg h', if_neg ht, if_neg ht, hbt]; rfl
def jno (wB : World) (g7 : Nat) (s : Option (List Int)) (Lv : List Blk) : Prop :=
 (∀ g ∈ Lv.map (·.g), wB.heap.size ≤ g) ∧ (∀ x, s = some x → x.length ≤ 1000) ∧ ∃ A c Lf, Lv = ⟨g7, 136, jcT n l ts ns hd rt s A c⟩ :: Lf ∧ OwnF s A c Lf
end
end Go.Proofs.YtgcokllbophkkaaGreat
