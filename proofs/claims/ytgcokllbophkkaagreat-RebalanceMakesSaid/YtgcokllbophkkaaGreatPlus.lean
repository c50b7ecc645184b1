/-
 Lists of rows as sources of append; permutations of blocks by counting.
-/
import Derived.Test.YtgcokllbophkkaaGreatFacts
import Derived.Test.YtgcokllbophkkaaGreatB4
import Derived.Test.YtgcokllbophkkaaGreatNest
import Derived.Laws.Bits128
import Derived.Test.YtgcokllbophkkaaGreatB1
import Derived.Test.YtgcokllbophkkaaGreatRM3
import Derived.Test.YtgcokllbophkkaaGreatT8
set_option linter.all false
set_option maxHeartbeats 4000000
namespace Go.W
open Go.RowKit
open Classical in
theorem sumCount {α : Type} (l : List α) (x : α) : (l.map fun a => if a = x then 1 else 0).sum = l.count x := by
 induction l with
 | nil => rfl
 | cons a l ih =>
  rw [List.map_cons, List.sum_cons, ih, List.count_cons]
  by_cases h : a = x <;> simp [h] <;> omega
open Classical in
theorem permBy {α : Type} {l l' : List α} (h : ∀ f : α → Nat, (l.map f).sum = (l'.map f).sum) : l.Perm l' :=
 List.perm_iff_count.2 fun x => by rw [← sumCount, ← sumCount]; exact h _
theorem OwnS.mt {g el sz : Nat} : OwnS (some ⟨g, 0, none⟩) 0 0 [] el sz [⟨g, el, []⟩] := ⟨by simp, .inr ⟨g, [], rfl, rfl, Nat.le_refl _, by unfold maxLen; omega, by simp⟩⟩
class Sb (L' L : List Blk) : Prop where
 out : L'.Sublist L
instance (L : List Blk) : Sb L L := ⟨List.Sublist.refl _⟩
instance (L M N : List Blk) [h : Sb L N] : Sb L (M ++ N) := ⟨h.out.trans (List.sublist_append_right _ _)⟩
instance (L M N : List Blk) [h : Sb L M] : Sb L (M ++ N) := ⟨h.out.trans (List.sublist_append_left _ _)⟩
instance (L M : List Blk) (b : Blk) [h : Sb L M] : Sb L (b :: M) := ⟨h.out.cons b⟩
end Go.W
namespace Go.Proofs.YtgcokllbophkkaaGreat
open Go Go.W Go.RowKit
def cmpI (a b : Int) : Int := if a < b then -1 else if b < a then 1 else 0
theorem cmpCompare (a b : Int) (w0 : World) : Calls Tryz.prog 109 #[I a, I b] w0 fun e w' => e = .returned (I (cmpI a b)) ∧ Below w0.heap.size w0 w' := by
 have H := SH.refl w0
 refine Calls.ofWP Tryz.func109 rfl Tryz.results109 Tryz.ntmps109 rfl <| Y.qr <| Y.b rfl <| Y.z <| Y.qr <| Y.a rfl <| OPS.call (d := some 8) rfl rfl rfl (EvC.func (fun_run rfl)) (cmpNaN a _) ?_
 rintro _ w ⟨rfl, hb⟩
 refine ⟨_, rfl, ?_⟩
 replace H := H.toBelow hb; clear hb
 refine Y.v (Ev.asB rfl) <| Y.z <| Y.qr <| Y.a rfl <| OPS.call (d := some 10) rfl rfl rfl (EvC.func (fun_run rfl)) (cmpNaN b _) ?_
 rintro _ w ⟨rfl, hb⟩
 refine ⟨_, rfl, ?_⟩
 replace H := H.toBelow hb; clear hb
 refine Y.v (Ev.asB rfl) <| Y.z <| Y.q <| Y.qr <| Y.v (Ev.mvB rfl) <| Y.z ?_
 refine WP.cond rfl (fun hc3 => ?_) (fun hc3 => ?_)
 ·refine Y.q <| Y.qr <| Y.v (Ev.mvB rfl) <| Y.z ?_
  refine WP.cond rfl (fun hc4 => ?_) (fun hc4 => ?_)
  ·refine Y.qr <| Y.b rfl <| Y.z ?_
   refine WP.ret ⟨_, rfl, ?_⟩
   cases hc3
  refine Y.k <| Y.qr <| Y.b rfl <| Y.z ?_
  refine WP.ret ⟨_, rfl, ?_⟩
  cases hc3
 refine Y.k <| Y.q <| Y.qr <| Y.v (Ev.mvB rfl) <| Y.z ?_
 refine WP.cond rfl (fun hc7 => ?_) (fun hc7 => ?_)
 ·refine Y.qr <| Y.b rfl <| Y.z ?_
  refine WP.ret ⟨_, rfl, ?_⟩
  cases hc7
 refine Y.k <| Y.q <| Y.qr <| Y.a rfl <| Y.a rfl <| Y.v (Ev.lss rfl rfl) <| Y.z ?_
 refine WP.cond rfl (fun hc9 => ?_) (fun hc9 => ?_)
 ·refine Y.qr <| Y.b rfl <| Y.z ?_
  refine WP.ret ⟨_, rfl, ?_⟩
  have h : a < b := by simpa using hc9
  exact ⟨by rw [cmpI, if_pos h]; rfl, H.below⟩
 refine Y.k <| Y.q <| Y.qr <| Y.a rfl <| Y.a rfl <| Y.v (Ev.gtr rfl rfl) <| Y.z ?_
 refine WP.cond rfl (fun hc11 => ?_) (fun hc11 => ?_)
 ·refine Y.qr <| Y.b rfl <| Y.z ?_
  refine WP.ret ⟨_, rfl, ?_⟩
  have h : ¬ a < b := by simpa using hc9
  have h2 : b < a := by simpa using hc11
  exact ⟨by rw [cmpI, if_neg h, if_pos h2]; rfl, H.below⟩
 refine Y.k <| Y.qr <| Y.b rfl <| Y.z ?_
 refine WP.ret ⟨_, rfl, ?_⟩
 have h : ¬ a < b := by simpa using hc9
 have h2 : ¬ b < a := by simpa using hc11
 exact ⟨by rw [cmpI, if_neg h, if_neg h2]; rfl, H.below⟩
def orI : List Int → Int
 | [] => 0
 | x :: l => if x ≠ 0 then x else orI l
theorem orI_drop {l : List Int} : ∀ {j : Nat}, j ≤ l.length → (∀ i (h : i < l.length), i < j → l[i] = 0) → orI l = orI (l.drop j)
 | 0, _, _ => by simp
 | j + 1, hj, h => by
  rw [orI_drop (j := j) (by omega) (fun i h1 h2 => h i h1 (by omega)), List.drop_eq_getElem_cons (show j < l.length by omega), orI, if_neg (by simpa using h j (by omega) (by omega))]
theorem cmpOr (A : Option Addr) (l : List Int) (cap : Nat) (w0 : World) (hz : IntsAt w0 A l) (hl : l.length ≤ 1000) :
  Calls Tryz.prog 108 #[.slice A l.length cap] w0 fun e w' => e = .returned (I (orI l)) ∧ Below w0.heap.size w0 w' := by
 have H := SH.refl w0
 refine Calls.ofWP Tryz.func108 rfl Tryz.results108 Tryz.ntmps108 rfl <| Y.qr <| Y.b rfl <| Y.z <| Y.qr <| Y.b rfl <| Y.z <| Y.q <| Y.qr <| Y.v (Ev.mvS rfl) <| Y.v (Y.n rfl) <| Y.a rfl <| Y.z <| WP.block <| WP.loop [2, 5, 8, 9, 10, 11, 12, 13, 14, 15, 16] (fun k e w' => ∃ (j : Nat), j + k = l.length ∧ e 8 = I j ∧ (∀ i (h : i < l.length), i < j → l[i] = 0) ∧ SH w0 [] w' []) (l.length) (⟨0, by omega, rfl, fun _ _ _ => by omega, H⟩) ?_
 clear H
 rintro k u w ⟨j, hk, h8, hall, H⟩
 refine WP.know (t := 8) h8 <| Y.qr <| Y.v (Ev.lss rfl rfl) <| Y.z <| Y.q ?_
 refine WP.cond rfl (fun hc3 => ?_) (fun hc3 => ?_)
 ·have hlt : j < l.length := by simpa using hc3
  obtain ⟨b, o, rfl, hx⟩ := hz j hlt
  refine Y.k <| Y.q <| WP.block <| Y.qr <| Y.v (Y.x rfl rfl rfl rfl) <| Y.v (Y.c (H.ld0 (by assumption)) rfl) ?_
  refine Y.b rfl <| Y.z <| Y.qr <| Y.a rfl <| Y.a rfl <| Y.v (Ev.neq rfl rfl) <| Y.z ?_
  refine WP.cond rfl (fun hc5 => ?_) (fun hc5 => ?_)
  ·refine Y.qr <| Y.a rfl <| Y.b rfl <| Y.z ?_
   refine WP.ret ⟨_, rfl, ?_⟩
   have hne : l[j] ≠ 0 := by simpa using hc5
   exact ⟨by rw [orI_drop (j := j) (by omega) hall, List.drop_eq_getElem_cons hlt, orI, if_pos hne]; rfl, H.below⟩
  have hne : l[j] = 0 := by simpa using hc5
  refine Y.k <| Y.r <| Y.v (Y.p rfl rfl) <| Y.a rfl <| Y.z ?_
  exact ⟨Y.ag, k - 1, by omega, j + 1, by omega, rfl, (fun i h1 h2 => by
   rcases Nat.lt_or_eq_of_le (Nat.le_of_lt_succ h2) with h | rfl
   ·exact hall i h1 h
   ·exact hne), H⟩
 refine WP.exit <| XB.hit <| Y.qr <| Y.a rfl <| Y.b rfl <| Y.z ?_
 refine WP.ret ⟨_, rfl, ?_⟩
 have hj : j = l.length := by simp at hc3; omega
 exact ⟨by rw [orI_drop (j := j) (by omega) hall, hj, List.drop_length]; rfl, H.below⟩
def cmpLs : List Int → List Int → Int
 | [], [] => 0
 | [], _ :: _ => -1
 | _ :: _, [] => 1
 | x :: a, y :: b => if cmpI x y ≠ 0 then cmpI x y else cmpLs a b
theorem cmpLs_neg : ∀ (a b : List Int), cmpLs a b < 0 ↔ lexB a b = true
 | [], [] => by simp [cmpLs, lexB]
 | [], _ :: _ => by simp [cmpLs, lexB]
 | _ :: _, [] => by simp [cmpLs, lexB]
 | x :: a, y :: b => by
  have ih := cmpLs_neg a b
  rw [cmpLs, lexB, cmpI]
  by_cases h1 : x < y
  ·simp [h1]
  ·by_cases h2 : y < x
   ·simp [h1, h2]
   ·simp [h1, h2, ih]
theorem cmpLs_drop {a b : List Int} : ∀ {j : Nat}, j ≤ a.length → j ≤ b.length → (∀ i (h : i < a.length) (h2 : i < b.length), i < j → a[i] = b[i]) → cmpLs a b = cmpLs (a.drop j) (b.drop j)
 | 0, _, _, _ => by simp
 | j + 1, h1, h2, h => by
  rw [cmpLs_drop (j := j) (by omega) (by omega) (fun i q1 q2 q3 => h i q1 q2 (by omega)), List.drop_eq_getElem_cons (show j < a.length by omega), List.drop_eq_getElem_cons (show j < b.length by omega), cmpLs, h j (by omega) (by omega) (by omega), if_neg (by simp [cmpI])]
theorem slCompare (A B : Option Addr) (a b : List Int) (c1 c2 : Nat) (w0 : World) (ha : IntsAt w0 A a) (hb : IntsAt w0 B b) (hl : a.length ≤ 1000) (hl2 : b.length ≤ 1000) :
  Calls Tryz.prog 110 #[.slice A a.length c1, .slice B b.length c2] w0 fun e w' => e = .returned (I (cmpLs a b)) ∧ Below w0.heap.size w0 w' := by
 have H := SH.refl w0
 refine Calls.ofWP Tryz.func110 rfl Tryz.results110 Tryz.ntmps110 rfl <| Y.qr <| Y.b rfl <| Y.z <| Y.q <| Y.qr <| Y.v (Ev.mvS rfl) <| Y.v (Y.n rfl) <| Y.a rfl <| Y.z <| WP.block <| WP.loop [4, 5, 6, 7, 8, 11, 12, 13, 14, 15, 16, 17, 18, 19, 20, 21, 22, 23, 24, 25, 26, 27, 28, 29, 30] (fun k e w' => ∃ (j : Nat), j + k = a.length ∧ e 11 = I j ∧ j ≤ b.length ∧ (∀ i (h : i < a.length) (h2 : i < b.length), i < j → a[i] = b[i]) ∧ SH w0 [] w' []) (a.length) (⟨0, by omega, rfl, by omega, fun _ _ _ _ => by omega, H⟩) ?_
 clear H
 rintro k u w ⟨j, hk, h11, hjb, hall, H⟩
 refine WP.know (t := 11) h11 <| Y.qr <| Y.v (Ev.lss rfl rfl) <| Y.z <| Y.q ?_
 refine WP.cond rfl (fun hc2 => ?_) (fun hc2 => ?_)
 ·have hlt : j < a.length := by simpa using hc2
  obtain ⟨b1, o1, rfl, hx⟩ := ha j hlt
  refine Y.k <| Y.q <| WP.block <| Y.qr <| Y.a rfl <| Y.v (Y.x rfl rfl rfl rfl) <| Y.v (Y.c (H.ld0 (by assumption)) rfl) ?_
  refine Y.b rfl <| Y.b rfl <| Y.z <| Y.q <| Y.qr <| Y.a rfl <| Y.v (Ev.mvS rfl) <| Y.v (Y.n rfl) <| Y.v (Ev.geq rfl rfl) <| Y.z ?_
  refine WP.cond rfl (fun hc4 => ?_) (fun hc4 => ?_)
  ·refine Y.qr <| Y.b rfl <| Y.z ?_
   refine WP.ret ⟨_, rfl, ?_⟩
   have h : ¬ j < b.length := by simpa using hc4
   exact ⟨by rw [cmpLs_drop (j := j) (by omega) (by omega) hall, List.drop_eq_getElem_cons hlt, List.drop_eq_nil_of_le (show b.length ≤ j by omega)]; rfl, H.below⟩
  have hlt2 : j < b.length := by simpa using hc4
  obtain ⟨b2, o2, rfl, hy⟩ := hb j hlt2
  refine Y.k <| Y.qr <| Y.v (Ev.mvS rfl) <| Y.a rfl <| Y.v (Y.x rfl rfl rfl rfl) <| Y.v (Y.c (H.ld0 (by assumption)) rfl) ?_
  refine Y.b rfl <| Y.z <| Y.qr <| Y.a rfl <| Y.a rfl <| OPS.call (d := some 26) rfl rfl rfl (EvC.func (fun_run rfl)) (cmpCompare a[j] b[j] _) ?_
  rintro _ w ⟨rfl, hb⟩
  refine ⟨_, rfl, ?_⟩
  replace H := H.toBelow hb; clear hb
  refine Y.b rfl <| Y.z <| Y.qr <| Y.a rfl <| Y.v (Ev.neq rfl rfl) <| Y.z ?_
  refine WP.cond rfl (fun hc8 => ?_) (fun hc8 => ?_)
  ·refine Y.qr <| Y.a rfl <| Y.b rfl <| Y.z ?_
   refine WP.ret ⟨_, rfl, ?_⟩
   have hne : cmpI a[j] b[j] ≠ 0 := by simpa using hc8
   exact ⟨by rw [cmpLs_drop (j := j) (by omega) (by omega) hall, List.drop_eq_getElem_cons hlt, List.drop_eq_getElem_cons hlt2, cmpLs, if_pos hne]; rfl, H.below⟩
  have hne : cmpI a[j] b[j] = 0 := by simpa using hc8
  have heq : a[j] = b[j] := by
   unfold cmpI at hne
   split at hne
   ·cases hne
   ·split at hne
    ·cases hne
    ·omega
  refine Y.k <| Y.r <| Y.v (Y.p rfl rfl) <| Y.a rfl <| Y.z ?_
  exact ⟨Y.ag, k - 1, by omega, j + 1, by omega, rfl, by omega, (fun i h1 h2 h3 => by
   rcases Nat.lt_or_eq_of_le (Nat.le_of_lt_succ h3) with h | rfl
   ·exact hall i h1 h2 h
   ·exact heq), H⟩
 have hj : j = a.length := by simp at hc2; omega
 refine WP.exit <| XB.hit <| Y.q <| Y.qr <| Y.v (Ev.mvS rfl) <| Y.v (Y.n rfl) <| Y.v (Ev.mvS rfl) <| Y.v (Y.n rfl) <| Y.v (Ev.lss rfl rfl) <| Y.z ?_
 refine WP.cond rfl (fun hc11 => ?_) (fun hc11 => ?_)
 ·refine Y.qr <| Y.b rfl <| Y.z ?_
  refine WP.ret ⟨_, rfl, ?_⟩
  have h : a.length < b.length := by simpa using hc11
  exact ⟨by rw [cmpLs_drop (j := j) (by omega) (by omega) hall, hj, List.drop_length, List.drop_eq_getElem_cons h]; rfl, H.below⟩
 refine Y.k <| Y.qr <| Y.b rfl <| Y.z ?_
 refine WP.ret ⟨_, rfl, ?_⟩
 have h : ¬ a.length < b.length := by simpa using hc11
 exact ⟨by rw [cmpLs_drop (j := j) (by omega) (by omega) hall, hj, List.drop_length, List.drop_eq_nil_of_le (show b.length ≤ a.length by omega)]; rfl, H.below⟩
end Go.Proofs.YtgcokllbophkkaaGreat
namespace Go.Proofs.YtgcokllbophkkaaGreat
open Go Go.W Go.RowKit
theorem onesCellsAt {w : World} {b : Nat} : ∀ (l : List Int) (o : Nat), IntsAt w (some ⟨b, o, none⟩) l → cellsAt w b o (l.map I)
 | [], _, _ => trivial
 | x :: l, o, h => by
  obtain ⟨b0, o0, e, h1⟩ := h 0 (by simp)
  cases e
  refine ⟨by simpa using h1, onesCellsAt l (o + 1) fun k hk => ?_⟩
  obtain ⟨b1, o1, e1, h2⟩ := h (k + 1) (by simpa using hk)
  cases e1
  exact ⟨_, _, rfl, by rw [show o + 1 + k = o + (k + 1) by omega]; simpa using h2⟩
theorem intsFrom {w : World} {A : Option Addr} {l : List Int} (h : IntsAt w A l) : l.length = 0 ∨ ∃ b o, A = some ⟨b, o, none⟩ ∧ cellsAt w b o (l.map I) := by
 rcases Nat.eq_zero_or_pos l.length with h0 | h0
 ·exact .inl h0
 ·obtain ⟨b, o, rfl, _⟩ := h 0 h0
  exact .inr ⟨b, o, rfl, onesCellsAt l o h⟩
theorem intsOne (l : List Int) : ((l.map I).all (·.oneCell')) = true := by rw [List.all_eq_true]; intro v hv; obtain ⟨x, _, rfl⟩ := List.mem_map.1 hv; rfl
theorem slClone (A : Option Addr) (l : List Int) (cap : Nat) (w0 : World) (hz : IntsAt w0 A l) (hl : l.length ≤ 1000) (hA : A = none → cap = 0) :
  Calls Tryz.prog 49 #[.slice A l.length cap] w0 fun e w' => ∃ (A' : Option Addr) (c : Nat) (Lo : List Blk), e = .returned (.slice A' l.length c) ∧ OwnS A' c l.length (l.map I) 3 1 Lo ∧ SH w0 [] w' Lo := by
 have H := SH.refl w0
 have hn : A = none → l = [] := fun h => by
  cases l with
  | nil => rfl
  | cons x l => obtain ⟨b, o, e, _⟩ := hz 0 (by simp); rw [h] at e; cases e
 refine Calls.ofWP Tryz.func49 rfl Tryz.results49 Tryz.ntmps49 rfl <| Y.qr <| Y.v (Ev.asS rfl) <| Y.z <| Y.q <| Y.qr <| Y.v (Ev.mvS rfl) <| Y.v (Ev.eqlSn Tryz.runUnderlying32 rfl rfl) <| Y.z ?_
 refine WP.cond rfl (fun hc1 => ?_) (fun hc1 => ?_)
 ·refine Y.qr <| Y.v (Ev.asS rfl) <| Y.z ?_
  refine WP.ret ⟨_, rfl, ?_⟩
  have h : A = none := by simpa using hc1
  obtain rfl := hn h
  obtain rfl := hA h
  exact ⟨none, 0, [], rfl, OwnS.nil, H⟩
 refine Y.k <| Y.qr <| OPS.buildSlice rfl rfl rfl rfl (bsl_32_0_ (e := fun _ => .int .i64 0)) H ?_
 clear H; intro g5 w H
 refine Y.v (Ev.mvS rfl) <| OPS.appendE (m := l.length) (news := l.map I) (R := []) rfl rfl rfl rfl rfl (sl_run rfl) rfl rfl OwnS.mt (by simp) (intsFrom (hz.sh H)) (intsOne l) (by omega) (by unfold maxLen; omega) H (List.Perm.refl _) ?_
 clear H; intro A' c Lo w hO H
 refine Y.v (Ev.asS rfl) <| Y.z ?_
 refine WP.ret ⟨_, rfl, ?_⟩
 rw [Nat.zero_add] at hO
 exact ⟨A', c, Lo, by rw [Nat.zero_add]; rfl, by simpa using hO, by simpa using H⟩
def mvL (ns : List Need) (rn : List Int) : Int := (rn.map fun i => absI (needAt ns i).move).sum
theorem mvL_snoc (ns : List Need) (rn : List Int) (i : Int) : mvL ns (rn ++ [i]) = mvL ns rn + absI (needAt ns i).move := by unfold mvL; rw [List.map_append, List.sum_append]; simp
theorem mvL_bd {ns : List Need} (hm : ∀ x ∈ ns, -32 ≤ x.move ∧ x.move ≤ 32) : ∀ (rn : List Int), 0 ≤ mvL ns rn ∧ mvL ns rn ≤ 32 * rn.length
 | [] => by simp [mvL]
 | i :: rn => by
  have ih := mvL_bd hm rn
  have h1 : -32 ≤ (needAt ns i).move ∧ (needAt ns i).move ≤ 32 := by
   unfold needAt
   by_cases h : i.toNat < ns.length
   ·have := hm ns[i.toNat] (List.getElem_mem h)
    rw [List.getD_eq_getElem?_getD, List.getElem?_eq_getElem h]; exact this
   ·rw [List.getD_eq_getElem?_getD, List.getElem?_eq_none (by omega)]; exact ⟨by decide, by decide⟩
  have h2 : mvL ns (i :: rn) = absI (needAt ns i).move + mvL ns rn := by unfold mvL; simp
  rw [h2]
  have h3 : 0 ≤ absI (needAt ns i).move ∧ absI (needAt ns i).move ≤ 32 := by unfold absI; omega
  simp only [List.length_cons]
  omega
theorem needAt_eq {ns : List Need} {i : Nat} (h : i < ns.length) : needAt ns (i : Int) = ns[i] := by unfold needAt; simp [h]
theorem routeMoved (n hd : Int) (A B C R : Option Addr) (l : List Edg) (ts : List Truck) (ns : List Need) (rn : List Int) (ca cb cc cr : Nat) (w0 : World) (hn : RowsAt 2 needCells w0 C ns) (hm : ∀ x ∈ ns, -32 ≤ x.move ∧ x.move ≤ 32) (hr : IntsAt w0 R rn) (hrl : rn.length ≤ 1000) (hin : ∀ i ∈ rn, 0 ≤ i ∧ i < ns.length) :
  Calls Tryz.prog 107 #[.agg #[I n, .slice A l.length ca, .slice B ts.length cb, .slice C ns.length cc, I hd], .slice R rn.length cr] w0 fun e w' => e = .returned (I (mvL ns rn)) ∧ Below w0.heap.size w0 w' := by
 have H := SH.refl w0
 refine Calls.ofWP Tryz.func107 rfl Tryz.results107 Tryz.ntmps107 rfl <| Y.qr <| Y.bx (cA rfl) H ?_
 clear H; intro g2 w H
 refine Y.b rfl <| Y.z <| Y.qr <| Y.b rfl <| Y.z <| Y.q <| Y.qr <| Y.v (Ev.mvS rfl) <| Y.v (Y.n rfl) <| Y.a rfl <| Y.z <| WP.block <| WP.loop [5, 7, 10, 11, 12, 13, 14, 15, 16, 17, 18, 19, 20, 21, 22, 23, 24, 25, 26, 27, 28, 29, 30] (fun k e w' => ∃ (j : Nat), j + k = rn.length ∧ e 10 = I j ∧ e 5 = I (mvL ns (rn.take j)) ∧ SH w0 [] w' [⟨g2, 28, [I n, .slice A l.length ca, .slice B ts.length cb, .slice C ns.length cc, I hd]⟩]) (rn.length) (⟨0, by omega, rfl, rfl, H⟩) ?_
 clear H
 rintro k u w ⟨j, hk, h10, h5, H⟩
 refine WP.know (t := 10) h10 (WP.know (t := 5) h5 ?_)
 refine Y.qr <| Y.v (Ev.lss rfl rfl) <| Y.z <| Y.q ?_
 refine WP.cond rfl (fun hc3 => ?_) (fun hc3 => ?_)
 ·have hlt : j < rn.length := by simpa using hc3
  obtain ⟨br, orr, rfl, hx⟩ := hr j hlt
  have hir := hin rn[j] (List.getElem_mem hlt)
  obtain ⟨i, hi⟩ := Int.eq_ofNat_of_zero_le hir.1
  rw [hi] at hx
  have hil : i < ns.length := by omega
  obtain ⟨bn, on, rfl, hy⟩ := hn i hil
  have hmv := hm ns[i] (List.getElem_mem hil)
  have hbd := mvL_bd hm (rn.take j)
  have htl : (rn.take j).length = j := by rw [List.length_take]; omega
  have hsn := mvL_snoc ns (rn.take j) rn[j]
  rw [← List.take_succ_eq_append_getElem hlt, hi, needAt_eq hil] at hsn
  generalize ns[i] = x at *
  refine Y.k <| Y.q <| WP.block <| Y.qr <| Y.v (Y.x rfl rfl rfl rfl) <| Y.v (Y.c (H.ld0 (by assumption)) rfl) ?_
  refine Y.b rfl <| Y.z <| WP.rstill mixed (by kernel_rfl) H ?_
  clear H; intro w hbw5 H
  obtain ⟨q1, q2, _⟩ := cellsAt_sh H hy
  refine Y.a rfl <| Y.fa rfl rfl <| Y.j H 0 rfl rfl rfl <| Y.a rfl <| Y.v (Y.X rfl rfl rfl rfl rfl) <| Y.fa rfl rfl <| Y.v (Y.c (by assumption) rfl) ?_
  refine Y.fa rfl rfl <| Y.j H 0 rfl rfl rfl <| Y.a rfl <| Y.v (Y.X rfl rfl rfl rfl rfl) <| Y.fa rfl rfl <| Y.v (Y.c (by assumption) rfl) ?_
  refine Y.v (Ev.neg rfl (by unfold fits; omega)) <| Y.v (Ev.max rfl rfl) <| Y.v (Y.p rfl rfl) <| Y.b rfl <| OPS.nil_s <| Y.r <| Y.v (Y.p rfl rfl) <| Y.a rfl <| Y.z ?_
  exact ⟨Y.ag, k - 1, by omega, j + 1, by omega, rfl, (by rw [hsn]; rfl), H⟩
 refine WP.exit <| XB.hit <| Y.qr <| Y.a rfl <| Y.b rfl <| Y.z ?_
 refine WP.ret ⟨_, rfl, ?_⟩
 have hj : j = rn.length := by simp at hc3; omega
 rw [hj, List.take_length]
 exact ⟨rfl, H.below⟩
end Go.Proofs.YtgcokllbophkkaaGreat
namespace Go.Proofs.YtgcokllbophkkaaGreat
open Go Go.W Go.RowKit
def fndCells (A : Option Addr) (n c : Nat) (m d : Int) (ok : Bool) : List Value := [.slice A n c, I m, I d, .bool ok]
theorem GB.u {want : Bool} : GB undef want false := ⟨by simp [undef]⟩
theorem betterN (v1 v2 v3 : Value) (A : Option Addr) (n c : Nat) (m d : Int) (x1 : Option Addr) (x2 x3 : Nat) (x4 x5 : Int) (w0 : World) :
  Calls Tryz.prog 83 #[.agg (fndCells x1 x2 x3 x4 x5 false).toArray, .agg (fndCells A n c m d true).toArray] w0 fun e w' => e = .returned (.agg (fndCells A n c m d true).toArray) ∧ Below w0.heap.size w0 w' := by
 have H := SH.refl w0
 unfold fndCells
 refine Calls.ofWPc Tryz.func83 rfl Tryz.results83 Tryz.ntmps83 rfl <| Y.qr <| Y.bx (cA rfl) H ?_
 clear H; intro g2 w H
 refine Y.bx (cA rfl) H ?_
 clear H; intro g3 w H
 refine Y.al H rfl rfl ?_
 clear H; intro g4 w H
 refine Y.z <| Y.q <| Y.q <| WP.rquiet mixed (by kernel_rfl) H ?_
 clear H; intro w hbw1 H
 refine Y.fa rfl rfl <| Y.j H 2 rfl rfl rfl <| Y.v (Ev.not rfl) <| Y.v (Ev.mvB rfl) <| OPS.gnoN rfl rfl (GB.b (b := true) rfl) rfl rfl <| OPS.gnoN rfl rfl (GB.b (b := true) rfl) rfl rfl <| OPS.gnoN rfl rfl (GB.b (b := true) rfl) rfl rfl <| OPS.gnoN rfl rfl GB.u rfl rfl <| OPS.gnoN rfl rfl GB.u rfl rfl <| OPS.gnoN rfl rfl GB.u rfl rfl <| OPS.gnoN rfl rfl GB.u rfl rfl <| OPS.gnoN rfl rfl GB.u rfl rfl <| OPS.gnoN rfl rfl GB.u rfl rfl <| OPS.gnoN rfl rfl GB.u rfl rfl <| OPS.gnoN rfl rfl GB.u rfl rfl <| OPS.gnoN rfl rfl GB.u rfl rfl <| OPS.gnoN rfl rfl GB.u rfl rfl <| OPS.gnoN rfl rfl GB.u rfl rfl <| OPS.gnoN rfl rfl GB.u rfl rfl <| OPS.gnoN rfl rfl GB.u rfl rfl <| OPS.gnoN rfl rfl GB.u rfl rfl <| OPS.gnoN rfl rfl GB.u rfl rfl <| OPS.gnoN rfl rfl GB.u rfl rfl <| OPS.gnoN rfl rfl GB.u rfl rfl <| OPS.gnoN rfl rfl GB.u rfl rfl <| OPS.gnoN rfl rfl (GB.b (b := true) rfl) rfl rfl <| Y.v (Ev.pick (b := true) rfl) <| OPS.nilq H ?_
 clear H; intro w hbx1 H
 refine WP.cond rfl (fun hc1 => ?_) (fun hc1 => ?_)
 ·refine Y.qr <| Y.v (Y.o H 1 rfl rfl) <| Y.ss 0 H rfl (cA rfl) rfl ?_
  clear H; intro w H
  refine Y.z ?_
  refine WP.ret ⟨[_], ⟨(by exact resCellA 0 H rfl (agg_run rfl) (size_run rfl) (by rfl) rfl), trivial⟩, ?_⟩
  exact ⟨rfl, H.below⟩
 refine Y.k <| Y.qr <| Y.v (Y.o H 2 rfl rfl) <| Y.ss 0 H rfl (cA rfl) rfl ?_
 clear H; intro w H
 refine Y.z ?_
 refine WP.ret ⟨[_], ⟨(by exact resCellA 0 H rfl (agg_run rfl) (size_run rfl) (by rfl) rfl), trivial⟩, ?_⟩
 cases hc1
theorem betterY (A : Option Addr) (a : List Int) (ca : Nat) (ma da : Int) (B : Option Addr) (b : List Int) (cb : Nat) (mb db : Int) (w0 : World) (ha : IntsAt w0 A a) (hb : IntsAt w0 B b) (hal : a.length ≤ 1000) (hbl : b.length ≤ 1000) :
  Calls Tryz.prog 83 #[.agg (fndCells A a.length ca ma da true).toArray, .agg (fndCells B b.length cb mb db true).toArray] w0 fun e w' => e = .returned (if orI [cmpI ma mb, cmpI db da, cmpLs b a] < 0 then .agg (fndCells B b.length cb mb db true).toArray else .agg (fndCells A a.length ca ma da true).toArray) ∧ Below w0.heap.size w0 w' := by
 have H := SH.refl w0
 unfold fndCells
 refine Calls.ofWPc Tryz.func83 rfl Tryz.results83 Tryz.ntmps83 rfl <| Y.qr <| Y.bx (cA rfl) H ?_
 clear H; intro g2 w H
 refine Y.bx (cA rfl) H ?_
 clear H; intro g3 w H
 refine Y.al H rfl rfl ?_
 clear H; intro g4 w H
 refine Y.z <| Y.q <| Y.q ?_
 refine WP.rheldC [5, 6, 7, 8, 9, 10, 11, 12, 13, 14, 15, 16, 17, 18, 19, 20, 21, 22, 23, 24, 25, 26, 27, 28, 29, 30, 31] (fun u w' => u 31 = .bool (decide (orI [cmpI ma mb, cmpI db da, cmpLs b a] < 0)) ∧ SH w0 [] w' [⟨g4, 136, [.slice none 0 0, I 0, I 0, .bool false]⟩, ⟨g3, 136, [.slice B b.length cb, I mb, I db, .bool true]⟩, ⟨g2, 136, [.slice A a.length ca, I ma, I da, .bool true]⟩]) mixed H ?_ ?_
 ·clear H; intro w hbw1 H
  refine Y.t 0 H rfl rfl (fun w H => Y.f rfl rfl) <| Y.t 1 H rfl rfl (fun w H => Y.l H 2 rfl rfl rfl) <| Y.t 2 H rfl rfl (fun w H => Ev.not rfl) <| Y.t 3 H rfl rfl (fun w H => Ev.mvB rfl) <| OPH.takeY 4 rfl rfl rfl rfl rfl rfl (by kernel_rfl) (by kernel_rfl) (by kernel_rfl) rfl (H) (fun w H => Ev.fieldAddr (fld_run rfl) rfl) ?_
  refine OPH.takeY 5 rfl rfl rfl rfl rfl rfl (by kernel_rfl) (by kernel_rfl) (by kernel_rfl) rfl (H) (fun w H => Ev.load1 (agg_run rfl) rfl (H.ldL 1 rfl _ rfl)) ?_
  refine OPH.takeY 6 rfl rfl rfl rfl rfl rfl (by kernel_rfl) (by kernel_rfl) (by kernel_rfl) rfl (H) (fun w H => Ev.mvB rfl) ?_
  refine OPH.takeY 7 rfl rfl rfl rfl rfl rfl (by kernel_rfl) (by kernel_rfl) (by kernel_rfl) rfl (H) (fun w H => Ev.fieldAddr (fld_run rfl) rfl) ?_
  refine OPH.takeY 8 rfl rfl rfl rfl rfl rfl (by kernel_rfl) (by kernel_rfl) (by kernel_rfl) rfl (H) (fun w H => Ev.load1 (agg_run rfl) rfl (H.ldL 2 rfl _ rfl)) ?_
  refine OPH.takeY 9 rfl rfl rfl rfl rfl rfl (by kernel_rfl) (by kernel_rfl) (by kernel_rfl) rfl (H) (fun w H => Ev.fieldAddr (fld_run rfl) rfl) ?_
  refine OPH.takeY 10 rfl rfl rfl rfl rfl rfl (by kernel_rfl) (by kernel_rfl) (by kernel_rfl) rfl (H) (fun w H => Ev.load1 (agg_run rfl) rfl (H.ldL 1 rfl _ rfl)) ?_
  refine OPH.takeY 12 rfl rfl rfl rfl rfl rfl (by kernel_rfl) (by kernel_rfl) (by kernel_rfl) rfl (H) (fun w H => Ev.fieldAddr (fld_run rfl) rfl) ?_
  refine OPH.takeY 13 rfl rfl rfl rfl rfl rfl (by kernel_rfl) (by kernel_rfl) (by kernel_rfl) rfl (H) (fun w H => Ev.load1 (agg_run rfl) rfl (H.ldL 1 rfl _ rfl)) ?_
  refine OPH.takeY 14 rfl rfl rfl rfl rfl rfl (by kernel_rfl) (by kernel_rfl) (by kernel_rfl) rfl (H) (fun w H => Ev.fieldAddr (fld_run rfl) rfl) ?_
  refine OPH.takeY 15 rfl rfl rfl rfl rfl rfl (by kernel_rfl) (by kernel_rfl) (by kernel_rfl) rfl (H) (fun w H => Ev.load1 (agg_run rfl) rfl (H.ldL 2 rfl _ rfl)) ?_
  refine OPH.takeY 17 rfl rfl rfl rfl rfl rfl (by kernel_rfl) (by kernel_rfl) (by kernel_rfl) rfl (H) (fun w H => Ev.fieldAddr (fld_run rfl) rfl) ?_
  refine OPH.takeY 18 rfl rfl rfl rfl rfl rfl (by kernel_rfl) (by kernel_rfl) (by kernel_rfl) rfl (H) (fun w H => Ev.load1 (agg_run rfl) rfl (H.ldL 1 rfl _ rfl)) ?_
  refine OPH.takeY 19 rfl rfl rfl rfl rfl rfl (by kernel_rfl) (by kernel_rfl) (by kernel_rfl) rfl (H) (fun w H => Ev.fieldAddr (fld_run rfl) rfl) ?_
  refine OPH.takeY 20 rfl rfl rfl rfl rfl rfl (by kernel_rfl) (by kernel_rfl) (by kernel_rfl) rfl (H) (fun w H => Ev.load1 (agg_run rfl) rfl (H.ldL 2 rfl _ rfl)) ?_
  refine Y.A1 11 rfl rfl <| OPS.gyes rfl rfl rfl rfl <| OPS.call (d := some 16) rfl rfl rfl (EvC.func (fun_run rfl)) (cmpCompare ma mb w) ?_
  rintro _ w ⟨rfl, hb'⟩
  refine ⟨_, rfl, ?_⟩
  replace H := H.toBelow hb'; clear hb'
  refine Y.z <| ⟨(H), ?_⟩
  refine Y.A1 16 rfl rfl <| OPS.gyes rfl rfl rfl rfl <| OPS.call (d := some 21) rfl rfl rfl (EvC.func (fun_run rfl)) (cmpCompare db da w) ?_
  rintro _ w ⟨rfl, hb'⟩
  refine ⟨_, rfl, ?_⟩
  replace H := H.toBelow hb'; clear hb'
  refine Y.z <| ⟨(H), ?_⟩
  refine Y.A1 21 rfl rfl <| OPS.gyes rfl rfl rfl rfl <| OPS.call (d := some 26) rfl rfl rfl (EvC.func (fun_run rfl)) (slCompare B A b a cb ca w (hb.sh H) (ha.sh H) hbl hal) ?_
  rintro _ w ⟨rfl, hb'⟩
  refine ⟨_, rfl, ?_⟩
  replace H := H.toBelow hb'; clear hb'
  refine Y.z <| ⟨(H), ?_⟩
  refine Y.A1 22 rfl rfl <| OPS.gyes rfl rfl rfl rfl <| OPS.buildSlice rfl rfl rfl rfl (bsl_32_3_0_1_2 rfl rfl rfl) H ?_
  clear H; intro g27 w E
  have H := E.drop (List.sublist_cons_self _ _)
  refine Y.z <| ⟨(H), ?_⟩
  refine Y.A1 23 rfl rfl <| OPS.gyes rfl rfl rfl rfl <| OPS.call (d := some 28) rfl rfl rfl (EvC.func (fun_run rfl)) (cmpOr (some ⟨g27, 0, none⟩) [cmpI ma mb, cmpI db da, cmpLs b a] 3 w (OnesAt.own (l := [cmpI ma mb, cmpI db da, cmpLs b a]) E 0 rfl (post := []) rfl) (by simp)) ?_
  rintro _ w ⟨rfl, hb'⟩
  refine ⟨_, rfl, ?_⟩
  replace H := H.toBelow hb'; clear hb'
  refine Y.z <| ⟨(H), ?_⟩
  refine OPH.takeY 24 rfl rfl rfl rfl rfl rfl (by kernel_rfl) (by kernel_rfl) (by kernel_rfl) rfl (H) (fun w H => Ev.lss rfl rfl) ?_
  refine OPH.takeY 25 rfl rfl rfl rfl rfl rfl (by kernel_rfl) (by kernel_rfl) (by kernel_rfl) rfl (H) (fun w H => Ev.pick (b := true) rfl) ?_
  refine Y.t 26 H rfl rfl (fun w H => Ev.pick (b := false) rfl) <| Y.dn ?_
  exact ⟨Y.ag, rfl, H⟩
 clear H
 rintro u w ⟨h31, H⟩
 refine WP.know (t := 31) h31 ?_
 refine WP.cond rfl (fun hc1 => ?_) (fun hc1 => ?_)
 ·refine Y.qr <| Y.v (Y.o H 1 rfl rfl) <| Y.ss 0 H rfl (cA rfl) rfl ?_
  clear H; intro w H
  refine Y.z ?_
  refine WP.ret ⟨[_], ⟨(by exact resCellA 0 H rfl (agg_run rfl) (size_run rfl) (by rfl) rfl), trivial⟩, ?_⟩
  have h : orI [cmpI ma mb, cmpI db da, cmpLs b a] < 0 := by simpa using hc1
  exact ⟨by rw [if_pos h]; rfl, H.below⟩
 refine Y.k <| Y.qr <| Y.v (Y.o H 2 rfl rfl) <| Y.ss 0 H rfl (cA rfl) rfl ?_
 clear H; intro w H
 refine Y.z ?_
 refine WP.ret ⟨[_], ⟨(by exact resCellA 0 H rfl (agg_run rfl) (size_run rfl) (by rfl) rfl), trivial⟩, ?_⟩
 have h : ¬ orI [cmpI ma mb, cmpI db da, cmpLs b a] < 0 := by simpa using hc1
 exact ⟨by rw [if_neg h]; rfl, H.below⟩
end Go.Proofs.YtgcokllbophkkaaGreat
namespace Go.Proofs.YtgcokllbophkkaaGreat
open Go Go.W Go.RowKit
theorem revOwn (g : Nat) (pre zs : List Int) (sp : List Value) (cap : Nat) (w0 : World) (hb : w0.heap[g]? = some (.cells ((pre ++ zs).map I ++ sp).toArray 3 (0, 0))) (hlen : zs.length ≤ 1000000) :
  Calls Tryz.prog 129 #[.slice (some ⟨g, pre.length, none⟩) zs.length cap] w0 fun e w' => e = .returned (.tuple #[]) ∧ SH w0 [g] w' [⟨g, 3, (pre ++ zs.reverse).map I ++ sp⟩] := by
 have hg : g < w0.heap.size := (Array.getElem?_eq_some_iff.1 hb).1
 have hH : Sort.Holds (Value.int .i64) w0 g pre.length zs.toArray := fun j hj => by
  have hj' : j < zs.length := by simpa using hj
  refine ⟨?_, by simp [World.frozen?, hb]⟩
  simp only [World.cell?, hb]
  simp only [Option.isSome_none, Bool.false_eq_true, if_false]
  rw [← Array.getElem?_toList]
  simp [hj', List.getElem?_append]
 refine (Tryz.slices_Reverse_int g pre.length cap zs w0 hH (by omega)).mono ?_
 rintro e w' ⟨rfl, n, rfl⟩
 have hcells : Sort.putCells (Value.int .i64) pre.length zs.reverse.toArray ((pre ++ zs).map I ++ sp).toArray = ((pre ++ zs.reverse).map I ++ sp).toArray := by
  apply Array.ext_getElem?
  intro k
  simp only [Sort.putCells, Array.getElem?_mapIdx, List.getElem?_toArray, List.map_append, List.append_assoc]
  by_cases h1 : k < pre.length
  ·rw [List.getElem?_append_left (l₁ := pre.map I) (by simpa using h1), List.getElem?_append_left (l₁ := pre.map I) (by simpa using h1)]
   simp [h1, show ¬ pre.length ≤ k by omega]
  ·rw [List.getElem?_append_right (l₁ := pre.map I) (by simp; omega), List.getElem?_append_right (l₁ := pre.map I) (by simp; omega), List.length_map]
   by_cases h2 : k < pre.length + zs.length
   ·have h3 : k - pre.length < zs.length := by omega
    rw [List.getElem?_append_left (l₁ := zs.map I) (by simpa using h3), List.getElem?_append_left (l₁ := zs.reverse.map I) (by simpa using h3)]
    simp [h2, h3, show pre.length ≤ k by omega]
   ·rw [List.getElem?_append_right (l₁ := zs.map I) (by simp; omega), List.getElem?_append_right (l₁ := zs.reverse.map I) (by simp; omega), List.length_map, List.length_map, List.length_reverse]
    cases sp[k - pre.length - zs.length]? with
    | none => rfl
    | some v => simp [h2]
 have hh : (Sort.putRow (Value.int .i64) (Sort.ahead w0 n) g pre.length zs.reverse.toArray).heap[g]? = some (.cells ((pre ++ zs.reverse).map I ++ sp).toArray 3 (0, 0)) := by
  rw [← hcells]
  simp [Sort.putRow, Sort.mapBlock, Sort.ahead, Array.getElem?_modify, hb, Sort.onCells]
 refine ⟨rfl, rfl, rfl, rfl, by simp [Sort.putRow, Sort.mapBlock, Sort.ahead], fun k hk hS => ?_, fun b hb => ?_, fun b hb => ?_, by simp⟩
 ·have : g ≠ k := fun e => hS (by simp [e])
  simp [Sort.putRow, Sort.mapBlock, Sort.ahead, Array.getElem?_modify, this]
 ·obtain rfl : b = ⟨g, 3, (pre ++ zs.reverse).map I ++ sp⟩ := by simpa using hb
  exact hh
 ·obtain rfl : b = ⟨g, 3, (pre ++ zs.reverse).map I ++ sp⟩ := by simpa using hb
  exact .inr (by simp)
theorem set_ints (l : List Int) (sp : List Value) (i : Nat) (x : Int) (hi : i < l.length) : putL (l.map I ++ sp) (0 + i) [I x] = (l.set i x).map I ++ sp := by
 simp [putL, List.set_append_left _ _ (show i < (l.map I).length by simpa using hi), List.map_set]
theorem routeOrders {σ : Type} (R : σ → List Blk → Prop) (vis : σ → List Int → σ) (F : Nat) (caps : List Value) (wB : World) (hfun : funT F = true) (l : List Int)
  (hvis : ∀ s Lv w A o c, Below wB.heap.size wB w → R s Lv → SH w (Lv.map (·.g)) w Lv → IntsAt w A o → (A = none → c = 0) → o.length ≤ c → o.Perm l →
   Calls Tryz.prog F ([Value.slice A o.length c] ++ caps).toArray w fun e w' => ∃ Lv', e = .returned (.tuple #[]) ∧ R (vis s o) Lv' ∧ SH w (Lv.map (·.g)) w' Lv')
  (A : Option Addr) (cap : Nat) (w0 : World) (hz : IntsAt w0 A l) (hl : l.length ≤ 16) (hnd : l.Nodup) (hrg : ∀ x ∈ l, 0 ≤ x ∧ x < 64)
  (s0 : σ) (Lv0 : List Blk) (hR0 : R s0 Lv0) (H0 : SH w0 (Lv0.map (·.g)) w0 Lv0) (hB : Below wB.heap.size wB w0) (hLv : ∀ g ∈ Lv0.map (·.g), wB.heap.size ≤ g) :
  Calls Tryz.prog 105 #[.slice A l.length cap, .func (.func F) #[] caps.toArray] w0 fun e w' => ∃ (V : List (List Int)) (Lv' : List Blk), e = .returned (.tuple #[]) ∧ (∀ o, o ∈ V ↔ o.Perm l) ∧ R (V.foldl vis s0) Lv' ∧ SH w0 (Lv0.map (·.g)) w' Lv' := by
 obtain ⟨S, hS⟩ : ∃ S, S = Lv0.map (·.g) := ⟨_, rfl⟩
 rw [← hS] at H0 hLv ⊢
 have hbel : ∀ {w : World} {L : List Blk}, SH w0 S w L → Below wB.heap.size wB w := fun {w L} H =>
  ⟨H.os.trans hB.os, H.tape.trans hB.tape, H.output.trans hB.output, Nat.le_trans hB.size H.size, fun k hk => (H.low k (Nat.lt_of_lt_of_le hk hB.size) (fun hm => by have := hLv k hm; omega)).trans (hB.block k hk)⟩
 have H := H0
 have hsl := srt_len l
 have hsp := srt_perm l
 refine Calls.ofWP Tryz.func105 rfl Tryz.results105 Tryz.ntmps105 rfl <| WP.scope <| Y.qr <| Y.v (Ev.mvS rfl) <| OPS.call (d := some 7) rfl rfl rfl (EvC.func (fun_run rfl)) (slValues A l.length cap w0) ?_
 rintro _ w ⟨gv, rfl, Hc⟩
 refine ⟨_, rfl, ?_⟩
 have hz1 := hz.sh Hc
 have hg1 := Hc.own ⟨gv, 32, [.slice A l.length cap]⟩ (by simp)
 replace H := SH.call (L1 := Lv0) (Lv := []) (by simpa using H) (by simpa using Hc.drop (List.nil_sublist _))
 clear Hc
 refine OPS.call (d := some 8) rfl rfl rfl (EvC.func (fun_run rfl)) (slSorted gv A l cap w hz1 (by omega) (by simpa using hg1)) ?_
 rintro _ w ⟨A', c, Lo, rfl, hO, Hc⟩
 refine ⟨_, rfl, ?_⟩
 replace H := SH.call (L1 := Lv0) (Lv := []) (by simpa using H) Hc
 clear Hc hz1 hg1
 have hA : A' = none → c = 0 := fun h => by
  rcases hO.form with ⟨_, _, h2, _⟩ | ⟨g, sp, h2, _⟩
  ·exact h2
  ·rw [h] at h2; cases h2
 rw [← hsl] at hO
 have hmet := Met.start hsp (by
  have h1 := srt_sorted l
  have h2 := List.nodup_iff_pairwise_ne.1 (hsp.nodup_iff.2 hnd)
  exact (h1.and h2).imp fun h => by omega)
 rw [← hsl]
 refine Y.v (Ev.asS rfl) <| Y.z <| Y.q <| WP.label <| WP.block <| WP.loop [4, 5, 9, 10, 11, 12, 13, 14, 15, 16, 17, 18, 19, 20, 21, 22, 23, 24, 25, 26, 27, 28, 29, 30, 31, 32, 33, 34, 35, 36, 37, 38, 39, 40, 41, 42, 43, 44, 45, 46, 47, 48, 49, 50, 51, 52, 53, 54] (fun k e w' => ∃ (cur : List Int) (V : List (List Int)) (Lv Lo : List Blk), k = 64 ^ cur.length - encL cur ∧ cur.length = (srt l).length ∧ Met l cur V ∧ OwnS A' c cur.length (cur.map I) 3 1 Lo ∧ R (V.foldl vis s0) Lv ∧ SH w0 S w' (Lv ++ Lo)) ((64 ^ (srt l).length - encL (srt l))) (⟨srt l, [], Lv0, Lo, rfl, rfl, hmet, hO, hR0, H⟩) ?_
 clear H hO hmet
 rintro k u w ⟨cur, V, Lv, Lo, hk, hcl, hmet, hO, hR, H⟩
 rw [← hcl]
 have hpc := hmet.perm
 have hndc : cur.Nodup := hpc.nodup_iff.2 hnd
 have hrgc : ∀ x ∈ cur, 0 ≤ x ∧ x < 64 := fun x hx => hrg x (hpc.mem_iff.1 hx)
 have hcl16 : cur.length ≤ 16 := by rw [hcl, hsl]; exact hl
 have hlec : cur.length ≤ c := by
  rcases hO.form with ⟨_, h, _⟩ | ⟨_, _, _, _, h, _⟩
  ·omega
  ·exact h
 refine WP.block <| Y.qr <| Y.v (Ev.mvF rfl) <| Y.v (Ev.mvS rfl) <| OPS.call (d := some 11) rfl rfl rfl (EvC.clos rfl (fun_run (by assumption))) (hvis (V.foldl vis s0) Lv w A' cur c (hbel H) hR (H.restart (List.sublist_append_left _ _)) (hO.ones H).1 hA hlec hpc) ?_
 rintro _ w ⟨Lv', rfl, hR', Hc⟩
 refine ⟨_, rfl, ?_⟩
 replace H := (SH.call (L1 := Lo) (Lv := Lv) (H.perm List.perm_append_comm) Hc).perm List.perm_append_comm
 clear Hc hR
 have hR2 : R ((V ++ [cur]).foldl vis s0) Lv' := by rw [List.foldl_append]; exact hR'
 refine Y.z <| Y.q <| Y.qr <| Y.v (Ev.mvS rfl) <| Y.v (Y.n rfl) <| Y.v (Y.s rfl rfl) <| Y.b rfl <| Y.z <| WP.block <| WP.loop [4, 5, 15, 16, 17, 18, 19, 20, 21, 22, 23, 24, 25, 26, 27, 28, 29, 30, 31, 32, 33, 34, 35, 36, 37, 38, 39, 40, 41, 42, 43, 44, 45, 46, 47, 48, 49, 50, 51, 52, 53, 54] (fun k e w' => ∃ (i : Int), e 4 = I i ∧ k = (i + 2).toNat ∧ -2 ≤ i ∧ i ≤ (cur.length : Int) - 2 ∧ Fall cur (i + 1).toNat ∧ SH w0 S w' (Lv' ++ Lo)) (cur.length) (⟨(cur.length : Int) - 2, rfl, by omega, by omega, by omega, fun a b h1 h2 h3 => by omega, H⟩) ?_
 clear H
 rintro k3 u3 w ⟨i, h4, hk3, hi2, hil, hfall, H⟩
 refine WP.know (t := 4) h4 <| Y.q <| Y.qr <| Y.a rfl <| Y.v (Ev.geq rfl rfl) <| Y.z ?_
 refine WP.cond rfl (fun hc3 => ?_) (fun hc3 => ?_)
 ·have hi0 : 0 ≤ i := by simpa using hc3
  obtain ⟨i, rfl⟩ := Int.eq_ofNat_of_zero_le hi0
  have hfall' : Fall cur (i + 1) := by simpa using hfall
  refine Y.k <| Y.q <| WP.block <| Y.qr <| Y.v (Ev.mvS rfl) <| Y.v (Y.n rfl) <| Y.v (Y.s rfl rfl) <| Y.b rfl <| Y.z <| WP.block <| WP.loop [5, 22, 23, 24, 25, 26, 27, 28, 29, 30, 31, 32, 33, 34, 35, 36, 37, 38, 39, 40, 41, 42, 43, 44, 45, 46, 47, 48, 49, 50, 51, 52, 53, 54] (fun k e w' => ∃ (j : Nat), e 5 = I j ∧ k = j ∧ i ≤ j ∧ j < cur.length ∧ (∀ q, j < q → q < cur.length → ¬ cur.getD i 0 < cur.getD q 0) ∧ SH w0 S w' (Lv' ++ Lo)) ((cur.length - 1)) (⟨cur.length - 1, by show I ((cur.length : Int) - 1) = _; congr 1; omega, rfl, by omega, by omega, fun q h1 h2 => by omega, H⟩) ?_
  clear H
  rintro k6 u6 w ⟨j, h5, hk6, hij, hjl, hno, H⟩
  refine WP.know (t := 5) h5 <| Y.q <| Y.qr <| Y.a rfl <| Y.a rfl <| Y.v (Ev.gtr rfl rfl) <| Y.z ?_
  refine WP.cond rfl (fun hc6 => ?_) (fun hc6 => ?_)
  ·have hlt : i < j := by simpa using hc6
   obtain ⟨g, sp, hAe, hLo, o1, o2, o3⟩ : ∃ g sp, A' = some ⟨g, 0, none⟩ ∧ Lo = [⟨g, 3, cur.map I ++ sp⟩] ∧ cur.length ≤ c ∧ c ≤ maxLen ∧ (cur.map I ++ sp).length = c * 1 := by
    rcases hO.form with ⟨_, h, _⟩ | h
    ·omega
    ·exact h
   have hgi := getDi (show i < cur.length by omega)
   have hgj := getDi (show j < cur.length by omega)
   have hcell : ∀ (w : World), SH w0 S w (Lv' ++ Lo) → ∀ q (h : q < cur.length), w.cell? ⟨g, 0 + q, none⟩ = some (I (cur.getD q 0)) := fun w H q h => by
    obtain ⟨b, o, e, hc⟩ := (hO.ones H).1 q h
    rw [hAe] at e; cases e
    rw [getDi h]; exact hc
   subst hAe
   refine Y.k <| Y.q <| WP.block <| Y.q <| WP.rstill mixed (by kernel_rfl) H ?_
   clear H; intro w hbw8 H
   have hx := hcell w H i (by omega)
   have hy := hcell w H j (by omega)
   refine Y.v (Ev.mvS rfl) <| Y.a rfl <| Y.v (Y.x rfl rfl rfl rfl) <| Y.v (Y.c (by assumption) rfl) ?_
   refine Y.v (Ev.mvS rfl) <| Y.a rfl <| Y.v (Y.x rfl rfl rfl rfl) <| Y.v (Y.c (by assumption) rfl) ?_
   refine Y.v (Ev.lss rfl rfl) <| OPS.nil_s ?_
   refine WP.cond rfl (fun hc8 => ?_) (fun hc8 => ?_)
   ·have hlx : cur.getD i 0 < cur.getD j 0 := by simpa using hc8
    subst hLo
    have hcl2 : ∀ (w : World), SH w0 S w (⟨g, 3, cur.map I ++ sp⟩ :: Lv') → ∀ q (h : q < cur.length), w.cell? ⟨g, 0 + q, none⟩ = some (I (cur.getD q 0)) := fun w H q h => by
     obtain ⟨b, o, e, hc⟩ := OnesAt.own (enc := I) (l := cur) (post := sp) H 0 rfl rfl q h
     cases e
     rw [getDi h]; exact hc
    have Hf := H.perm (List.perm_append_singleton _ _)
    replace H := H.drop (List.nil_sublist _)
    have hl1 : ((swp cur i j).take (i + 1)).length = 0 + (i + 1) * 1 := by rw [List.length_take, swp_len]; omega
    have hl2 : ((swp cur i j).drop (i + 1)).length = cur.length - (i + 1) := by rw [List.length_drop, swp_len]
    have hrev := fun w hb => revOwn g ((swp cur i j).take (i + 1)) ((swp cur i j).drop (i + 1)) sp (c - (i + 1)) w hb (by rw [hl2]; omega)
    simp only [hl1, hl2, List.take_append_drop] at hrev
    refine Y.q ?_
    refine WP.rheldC [36, 37, 38, 39, 40, 41, 42, 43, 44, 45, 46, 47, 48, 49] (fun _ w' => SH w0 S w' (⟨g, 3, (swp cur i j).map I ++ sp⟩ :: Lv')) mixed H ?_ ?_
    ·clear H; intro w hbw9 H
     refine Y.t 0 H rfl rfl (fun w H => Ev.mvS rfl) <| Y.t 1 H rfl rfl (fun w H => Y.m rfl) <| Y.t 2 H rfl rfl (fun w H => Ev.mvS rfl) <| Y.t 3 H rfl rfl (fun w H => Y.m rfl) <| Y.t 4 H rfl rfl (fun w H => Ev.mvS rfl) <| Y.t 5 H rfl rfl (fun w H => Y.m rfl) <| Y.t 6 H rfl rfl (fun w H => Y.x rfl rfl rfl rfl) <| Y.t 8 H rfl rfl (fun w H => Ev.mvS rfl) <| Y.t 9 H rfl rfl (fun w H => Y.m rfl) <| Y.t 10 H rfl rfl (fun w H => Y.x rfl rfl rfl rfl) ?_
     refine Y.A2 7 11 rfl rfl rfl ?_ ?_
     ·try replace Hf := Hf.toBelow hbw9
      have hy := hcl2 w Hf j (by omega)
      refine Y.v (Y.c hy rfl) <| Y.z <| ⟨(H), ?_⟩
      refine Y.A1 11 rfl rfl ?_
      try replace Hf := Hf.toBelow hbw9
      have hx := hcl2 w Hf i (by omega)
      refine Y.v (Y.c hx rfl) <| Y.z <| ⟨(H), ?_⟩
      refine Y.t 12 H rfl rfl (fun w H => Y.x rfl rfl rfl rfl) <| Y.A1 13 rfl rfl <| OPS.store 0 _ rfl rfl rfl (size_run rfl) rfl (cI rfl) rfl rfl Hf rfl (by simp; omega) ?_
      clear H Hf; intro w Hf
      replace Hf : SH w0 S w (⟨g, 3, putL (cur.map I ++ sp) (0 + i) [I (cur.getD j 0)]⟩ :: Lv') := Hf
      rw [set_ints _ _ _ _ (by omega)] at Hf
      have H := Hf.drop (List.nil_sublist _)
      refine Y.z <| ⟨(H), ?_⟩
      refine Y.t 14 H rfl rfl (fun w H => Y.x rfl rfl rfl rfl) <| Y.A1 15 rfl rfl <| OPS.store 0 _ rfl rfl rfl (size_run rfl) rfl (cI rfl) rfl rfl Hf rfl (by simp; omega) ?_
      clear H Hf; intro w Hf
      replace Hf : SH w0 S w (⟨g, 3, putL ((cur.set i (cur.getD j 0)).map I ++ sp) (0 + j) [I (cur.getD i 0)]⟩ :: Lv') := Hf
      rw [set_ints _ _ _ _ (by rw [List.length_set]; omega)] at Hf
      have H := Hf.drop (List.nil_sublist _)
      refine Y.z <| ⟨(H), ?_⟩
      refine Y.dn ?_
      exact ⟨Y.ag, Hf⟩
     ·try replace Hf := Hf.toBelow hbw9
      have hx := hcl2 w Hf i (by omega)
      refine Y.v (Y.c hx rfl) <| Y.z <| ⟨(H), ?_⟩
      refine Y.A1 7 rfl rfl ?_
      try replace Hf := Hf.toBelow hbw9
      have hy := hcl2 w Hf j (by omega)
      refine Y.v (Y.c hy rfl) <| Y.z <| ⟨(H), ?_⟩
      refine Y.t 12 H rfl rfl (fun w H => Y.x rfl rfl rfl rfl) <| Y.A1 13 rfl rfl <| OPS.store 0 _ rfl rfl rfl (size_run rfl) rfl (cI rfl) rfl rfl Hf rfl (by simp; omega) ?_
      clear H Hf; intro w Hf
      replace Hf : SH w0 S w (⟨g, 3, putL (cur.map I ++ sp) (0 + i) [I (cur.getD j 0)]⟩ :: Lv') := Hf
      rw [set_ints _ _ _ _ (by omega)] at Hf
      have H := Hf.drop (List.nil_sublist _)
      refine Y.z <| ⟨(H), ?_⟩
      refine Y.t 14 H rfl rfl (fun w H => Y.x rfl rfl rfl rfl) <| Y.A1 15 rfl rfl <| OPS.store 0 _ rfl rfl rfl (size_run rfl) rfl (cI rfl) rfl rfl Hf rfl (by simp; omega) ?_
      clear H Hf; intro w Hf
      replace Hf : SH w0 S w (⟨g, 3, putL ((cur.set i (cur.getD j 0)).map I ++ sp) (0 + j) [I (cur.getD i 0)]⟩ :: Lv') := Hf
      rw [set_ints _ _ _ _ (by rw [List.length_set]; omega)] at Hf
      have H := Hf.drop (List.nil_sublist _)
      refine Y.z <| ⟨(H), ?_⟩
      refine Y.dn ?_
      exact ⟨Y.ag, Hf⟩
    clear H
    rintro u w H
    refine Y.qr <| Y.v (Ev.mvS rfl) <| Y.a rfl <| Y.v (Y.p rfl rfl) <| Y.v (Ev.sliceFrom2 (j := i + 1) (el_run rfl) (size_run rfl) rfl rfl rfl (by omega) (by omega)) <| OPS.call (d := some 54) rfl rfl rfl (EvC.func (fun_run rfl)) (hrev w (H.own _ List.mem_cons_self)) ?_
    rintro _ w ⟨rfl, Hc⟩
    refine ⟨_, rfl, ?_⟩
    replace H := SH.call (L1 := Lv') (Lv := [⟨g, 3, (swp cur i j).map I ++ sp⟩]) (H.perm (List.perm_append_singleton _ _).symm) Hc
    clear Hc
    have hstl := stepL_len cur i j
    obtain ⟨hst1, hst2, _⟩ := step_ok hlt hjl hfall' hlx hno hndc
    have hen := encL_lex hstl.symm hrgc (fun x hx => hrgc x (hst2.mem_iff.1 hx)) hst1
    have hen2 := encL_lt (l := stepL cur i j) (fun x hx => hrgc x (hst2.mem_iff.1 hx))
    rw [hstl] at hen2
    refine Y.z <| WP.exit <| XB.miss rfl <| XB.miss rfl <| XB.miss rfl <| XB.miss rfl <| XB.hit ?_
    exact ⟨Y.ag, 64 ^ (stepL cur i j).length - encL (stepL cur i j), by rw [hstl]; omega, stepL cur i j, V ++ [cur], Lv', _, rfl, by rw [hstl], hmet.step hlt hjl hfall' hlx hno hndc, ⟨by rw [List.length_map, hstl]; omega, .inr ⟨g, sp, rfl, rfl, by rw [hstl]; exact o1, o2, by rw [List.length_append, List.length_map, hstl]; simpa using o3⟩⟩, hR2, H⟩
   have hlx : ¬ cur.getD i 0 < cur.getD j 0 := by simpa using hc8
   refine Y.k <| Y.r <| Y.a rfl <| Y.v (Y.s rfl rfl) <| Y.b rfl <| Y.z ?_
   exact ⟨Y.ag, k6 - 1, by omega, j - 1, by show I ((j : Int) - 1) = _; congr 1; omega, by omega, by omega, by omega, (fun q h1 h2 => by
    by_cases h : q = j
    ·subst h; exact hlx
    ·exact hno q (by omega) h2), H⟩
  have hij' : j = i := by simp at hc6; omega
  subst hij'
  refine WP.exit <| XB.hit <| Y.r <| Y.a rfl <| Y.v (Y.s rfl rfl) <| Y.b rfl <| Y.z ?_
  exact ⟨Y.ag, k3 - 1, by omega, (j : Int) - 1, rfl, by omega, by omega, by omega, by simpa using fall_more hfall' hno hndc, H⟩
 refine WP.exit <| XB.hit ?_
 refine WP.ret ⟨_, rfl, ?_⟩
 have hi1 : i < 0 := by simpa using hc3
 exact ⟨V ++ [cur], Lv', rfl, hmet.done (by rw [show (i + 1).toNat = 0 by omega] at hfall; exact hfall), hR2, H.drop (List.sublist_append_left _ _)⟩
end Go.Proofs.YtgcokllbophkkaaGreat
namespace Go.Proofs.YtgcokllbophkkaaGreat
open Go Go.W Go.RowKit
theorem or_worse {m d : List Int → Int} {a b : List Int} : orI [cmpI (m a) (m b), cmpI (d b) (d a), cmpLs b a] < 0 ↔ worse m d a b := by
 have hl := cmpLs_neg b a
 unfold worse cmpI orI orI orI orI
 by_cases h1 : m a < m b
 ·simp [h1]
 ·by_cases h2 : m b < m a
  ·simp [h1, h2]; omega
  ·have : m a = m b := by omega
   by_cases h3 : d b < d a
   ·simp [this, h3]
   ·by_cases h4 : d a < d b
    ·simp [this, h3, h4]; omega
    ·have : d a = d b := by omega
     simp [*]
     by_cases h5 : cmpLs b a = 0
     ·simp [h5] at hl ⊢; simpa using hl
     ·simp [h5]; exact hl
section
variable (n : Int) (l : List Edg) (ts : List Truck) (ns : List Need) (hd rt : Int)
noncomputable def secsD (o : List Int) : Int := outD n l ts ns hd rt o
noncomputable def feasB (o : List Int) : Bool := decide (walkE n l ts ns hd rt o = 0)
noncomputable def fndV (s : Option (List Int)) (A : Option Addr) (c : Nat) : List Value :=
 match s with
 | none => fndCells none 0 0 0 0 false
 | some x => fndCells A x.length c (mvL ns x) (secsD n l ts ns hd rt x) true
theorem fndV_len (s : Option (List Int)) (A : Option Addr) (c : Nat) : (fndV n l ts ns hd rt s A c).length = 4 := by cases s <;> rfl
def OwnF (s : Option (List Int)) (A : Option Addr) (c : Nat) (Lf : List Blk) : Prop :=
 match s with
 | none => Lf = []
 | some x => OwnS A c x.length (x.map I) 3 1 Lf
noncomputable def takesB (s : Option (List Int)) (y : List Int) : Bool :=
 match s with
 | none => true
 | some x => decide (worse (mvL ns) (secsD n l ts ns hd rt) x y)
theorem betterO (s : Option (List Int)) (A : Option Addr) (c : Nat) (B : Option Addr) (y : List Int) (cb : Nat) (w0 : World) (ha : ∀ x, s = some x → IntsAt w0 A x ∧ x.length ≤ 1000) (hb : IntsAt w0 B y) (hbl : y.length ≤ 1000) :
  Calls Tryz.prog 83 #[.agg (fndV n l ts ns hd rt s A c).toArray, .agg (fndV n l ts ns hd rt (some y) B cb).toArray] w0 fun e w' => e = .returned (.agg (fndV n l ts ns hd rt (bet (mvL ns) (secsD n l ts ns hd rt) s (some y)) (if takesB n l ts ns hd rt s y = true then B else A) (if takesB n l ts ns hd rt s y = true then cb else c)).toArray) ∧ Below w0.heap.size w0 w' := by
 cases s with
 | none => exact betterN undef undef undef B y.length cb (mvL ns y) (secsD n l ts ns hd rt y) none 0 0 0 0 w0
 | some x =>
  obtain ⟨h1, h2⟩ := ha x rfl
  refine (betterY A x c (mvL ns x) (secsD n l ts ns hd rt x) B y cb (mvL ns y) (secsD n l ts ns hd rt y) w0 h1 hb h2 hbl).mono ?_
  rintro e w' ⟨rfl, hB⟩
  refine ⟨?_, hB⟩
  by_cases h : worse (mvL ns) (secsD n l ts ns hd rt) x y
  ·have h' := (or_worse (m := mvL ns) (d := secsD n l ts ns hd rt)).2 h
   have ht : takesB n l ts ns hd rt (some x) y = true := decide_eq_true h
   have hbt : bet (mvL ns) (secsD n l ts ns hd rt) (some x) (some y) = some y := if_pos h
   rw [if_pos h', if_pos ht, if_pos ht, hbt]; rfl
  ·have h' := fun q => h ((or_worse (m := mvL ns) (d := secsD n l ts ns hd rt)).1 q)
   have ht : ¬ takesB n l ts ns hd rt (some x) y = true := by simpa [takesB] using h
   have hbt : bet (mvL ns) (secsD n l ts ns hd rt) (some x) (some y) = some x := if_neg h
   rw [if_neg h', if_neg ht, if_neg ht, hbt]; rfl
def VisR (wB : World) (g7 : Nat) (s : Option (List Int)) (Lv : List Blk) : Prop :=
 (∀ g ∈ Lv.map (·.g), wB.heap.size ≤ g) ∧ (∀ x, s = some x → x.length ≤ 1000) ∧ ∃ A c Lf, Lv = ⟨g7, 136, fndV n l ts ns hd rt s A c⟩ :: Lf ∧ OwnF s A c Lf
end
end Go.Proofs.YtgcokllbophkkaaGreat
namespace Go.Proofs.YtgcokllbophkkaaGreat
open Go Go.W Go.RowKit
section
variable (n : Int) (l : List Edg) (ts : List Truck) (ns : List Need) (hd rt : Int)
theorem fndV_one (s : Option (List Int)) (A : Option Addr) (c : Nat) : ((fndV n l ts ns hd rt s A c).all (·.oneCell')) = true := by cases s <;> rfl
theorem fndV_put (s s' : Option (List Int)) (A A' : Option Addr) (c c' : Nat) : putL (fndV n l ts ns hd rt s A c) 0 (fndV n l ts ns hd rt s' A' c') = fndV n l ts ns hd rt s' A' c' := by cases s <;> cases s' <;> rfl
theorem takes_bet (s : Option (List Int)) (y : List Int) : bet (mvL ns) (secsD n l ts ns hd rt) s (some y) = if takesB n l ts ns hd rt s y = true then some y else s := by
 cases s with
 | none => rfl
 | some x =>
  by_cases h : worse (mvL ns) (secsD n l ts ns hd rt) x y
  ·rw [show takesB n l ts ns hd rt (some x) y = true from decide_eq_true h, if_pos rfl]; exact if_pos h
  ·rw [if_neg (by simpa [takesB] using h)]; exact if_neg h
end
theorem routeBestV (n hd rt : Int) (A B C : Option Addr) (l : List Edg) (ts : List Truck) (ns : List Need) (ca cb cc g3 g4 g7 : Nat) (wB : World) (hz : EdgsAt wB A l) (ht : RowsAt 4 truckCells wB B ts) (hn : RowsAt 2 needCells wB C ns) (hcc : ns.length ≤ cc)
  (h3 : cellsAt wB g3 0 [I n, .slice A l.length ca, .slice B ts.length cb, .slice C ns.length cc, I hd]) (h4 : wB.cell? ⟨g4, 0, none⟩ = some (I rt)) (hm : ∀ x ∈ ns, -32 ≤ x.move ∧ x.move ≤ 32)
  (s : Option (List Int)) (Lv : List Blk) (w0 : World) (O : Option Addr) (o : List Int) (co : Nat) (hB : Below wB.heap.size wB w0) (hR : VisR n l ts ns hd rt wB g7 s Lv) (H0 : SH w0 (Lv.map (·.g)) w0 Lv) (ho : IntsAt w0 O o) (hO : O = none → co = 0) (hlc : o.length ≤ co) (hol : o.length ≤ 16) :
  Calls Tryz.prog 106 ([Value.slice O o.length co] ++ [Value.pointer (some ⟨g3, 0, none⟩), Value.pointer (some ⟨g4, 0, none⟩), Value.pointer (some ⟨g7, 0, none⟩)]).toArray w0 fun e w' => ∃ Lv', e = .returned (.tuple #[]) ∧ VisR n l ts ns hd rt wB g7 (visB (mvL ns) (secsD n l ts ns hd rt) (feasB n l ts ns hd rt) s o) Lv' ∧ SH w0 (Lv.map (·.g)) w' Lv' := by
 obtain ⟨hge, hxl, A', c', Lf, rfl, hOF⟩ := hR
 obtain ⟨S, hS⟩ : ∃ S, S = List.map (·.g) (⟨g7, 136, fndV n l ts ns hd rt s A' c'⟩ :: Lf) := ⟨_, rfl⟩
 rw [← hS] at H0 hge ⊢
 have hbel : ∀ {w : World} {L : List Blk}, SH w0 S w L → Below wB.heap.size wB w := fun {w L} H =>
  ⟨H.os.trans hB.os, H.tape.trans hB.tape, H.output.trans hB.output, Nat.le_trans hB.size H.size, fun k hk => (H.low k (Nat.lt_of_lt_of_le hk hB.size) (fun hm => by have := hge k hm; omega)).trans (hB.block k hk)⟩
 have H := H0
 have hW := Below.refl w0.heap.size w0
 simp only [List.cons_append, List.nil_append]
 refine Calls.ofWP Tryz.func106 rfl Tryz.results106 Tryz.ntmps106 rfl <| Y.qr <| Y.v (by (change Ev _ _ _ _ (Op.load 28 (Operand.tmp 1)) _; exact Ev.loadN [I n, .slice A l.length ca, .slice B ts.length cb, .slice C ns.length cc, I hd] (agg_run rfl) (size_run rfl) rfl (cellsAt_below hB h3))) <| Y.v (Y.c (cell_below hB h4) rfl) <| Y.v (Ev.mvS rfl) <| Y.v (Ev.build (bld_49_0_1 rfl rfl)) <| OPS.call (d := some 12) rfl rfl rfl (EvC.func (fun_run rfl)) (truckDriving n hd rt A B C O l ts ns o ca cb cc co w0 (hz.below hB) (ht.below hB) (hn.below hB) hcc ho (by unfold maxLen; omega) hlc) ?_
 rintro _ w ⟨rfl, hb⟩
 refine ⟨_, rfl, ?_⟩
 replace H := H.toBelow hb
 replace hW := hb
 clear hb
 refine Y.v (Ev.mvT rfl) <| Y.v (Ev.extract rfl rfl) <| Y.v (Ev.extract rfl rfl) <| Y.b rfl <| Y.b rfl <| Y.z <| Y.qr <| Y.a rfl <| Y.v (Ev.eql rfl rfl) <| Y.z ?_
 refine WP.cond rfl (fun hc1 => ?_) (fun hc1 => ?_)
 ·have hfe : walkE n l ts ns hd rt o = 0 := by simpa using hc1
  have hF : feasB n l ts ns hd rt o = true := decide_eq_true hfe
  have hin : ∀ i ∈ o, 0 ≤ i ∧ i < ns.length := by
   have h : routeErr ts ns rt o = 0 := by
    unfold walkE at hfe
    split at hfe
    ·rename_i h1; exact absurd hfe h1
    ·split at hfe
     ·rename_i h1; exact absurd hfe h1
     ·rename_i h1; simpa using h1
   exact (routeOk_of h).2.1
  have hvis : visB (mvL ns) (secsD n l ts ns hd rt) (feasB n l ts ns hd rt) s o = bet (mvL ns) (secsD n l ts ns hd rt) s (some o) := if_pos hF
  rw [hvis]
  have Hf := H
  replace H := H.drop (List.nil_sublist _)
  refine WP.rheldC [17, 18, 19, 20, 21, 22, 23, 24, 25] (fun _ w' => ∃ Lv', VisR n l ts ns hd rt wB g7 (bet (mvL ns) (secsD n l ts ns hd rt) s (some o)) Lv' ∧ SH w0 S w' Lv') mixed H ?_ ?_
  ·clear H; intro w hbw2 H
   refine Y.t 1 H rfl rfl (fun w H => Ev.mvS rfl) ?_
   refine OPH.take 3 rfl rfl rfl rfl (by kernel_rfl) (by kernel_rfl) (by kernel_rfl) rfl (by exact H) (fun w H => (by refine Ev.loadN (b := g3) (o := 0) [I n, .slice A l.length ca, .slice B ts.length cb, .slice C ns.length cc, I hd] ?_ ?_ ?_ (cellsAt_below (hbel H) h3); exact agg_run rfl; exact size_run rfl; rfl)) ?_
   refine Y.t 4 H rfl rfl (fun w H => Ev.mvS rfl) <| Y.t 6 H rfl rfl (fun w H => Y.m rfl) ?_
   refine Y.A2 0 2 rfl rfl rfl ?_ ?_
   ·try replace Hf := Hf.toBelow hbw2
    refine Y.v (Ev.loadO 0 Hf rfl (agg_run rfl) (size_run rfl) (fndV_len n l ts ns hd rt s A' c') rfl) <| Y.z <| ⟨(H), ?_⟩
    refine Y.A1 2 rfl rfl ?_
    try replace Hf := Hf.toBelow hbw2
    try replace hW := hW.trans (hbw2.mono hW.size)
    refine OPS.call (d := some 19) rfl rfl rfl (EvC.func (fun_run rfl)) (slClone O o co w (ho.below hW) (by omega) hO) ?_
    rintro _ w ⟨B', cb', Lo, rfl, hOo, Hc⟩
    refine ⟨_, rfl, ?_⟩
    replace hW := hW.trans (Hc.below.mono hW.size)
    replace Hf := SH.call (L1 := _ :: Lf) (Lv := []) (by simpa using Hf) Hc
    clear Hc
    have H := Hf.drop (List.nil_sublist _)
    refine Y.z <| ⟨(H), ?_⟩
    refine Y.A1 5 rfl rfl <| OPS.call (d := some 22) rfl rfl rfl (EvC.func (fun_run rfl)) (routeMoved n hd A B C O l ts ns o ca cb cc co w (hn.below (hbel Hf)) hm (ho.below hW) (by omega) hin) ?_
    rintro _ w ⟨rfl, hb'⟩
    refine ⟨_, rfl, ?_⟩
    replace Hf := Hf.toBelow hb'
    replace hW := hW.trans (hb'.mono hW.size)
    clear hb'
    have H := Hf.drop (List.nil_sublist _)
    refine Y.z <| ⟨(H), ?_⟩
    refine Y.t 7 H rfl rfl (fun w H => Ev.build (bld_136_0_1_2_3 rfl rfl rfl rfl)) <| Y.A1 8 rfl rfl <| OPS.call (d := some 25) rfl rfl rfl (EvC.func (fun_run rfl)) (betterO n l ts ns hd rt s A' c' B' o cb' w (fun x hx => ⟨by subst hx; exact (OwnS.ones (R := _ :: Lo) hOF (Hf.perm (List.Perm.cons _ List.perm_append_comm))).1, hxl x hx⟩) (hOo.ones Hf).1 (by omega)) ?_
    rintro _ w ⟨rfl, hb'⟩
    refine ⟨_, rfl, ?_⟩
    replace Hf := Hf.toBelow hb'
    clear hb'
    have H := Hf.drop (List.nil_sublist _)
    refine Y.z <| ⟨(H), ?_⟩
    refine Y.A1 9 rfl rfl <| OPS.store (vs := fndV n l ts ns hd rt (bet (mvL ns) (secsD n l ts ns hd rt) s (some o)) (if takesB n l ts ns hd rt s o = true then B' else A') (if takesB n l ts ns hd rt s o = true then cb' else c')) 0 _ rfl rfl rfl (size_run rfl) rfl (cA rfl) (fndV_len n l ts ns hd rt _ _ _) (fndV_one n l ts ns hd rt _ _ _) Hf rfl (by rw [fndV_len]; exact Nat.le_refl _) ?_
    clear H Hf; intro w Hf
    have H := Hf.drop (List.nil_sublist _)
    replace Hf : ∃ Lv', VisR n l ts ns hd rt wB g7 (bet (mvL ns) (secsD n l ts ns hd rt) s (some o)) Lv' ∧ SH w0 S w Lv' := by
     replace Hf : SH w0 S w (⟨g7, 136, putL (fndV n l ts ns hd rt s A' c') 0 (fndV n l ts ns hd rt (bet (mvL ns) (secsD n l ts ns hd rt) s (some o)) (if takesB n l ts ns hd rt s o = true then B' else A') (if takesB n l ts ns hd rt s o = true then cb' else c'))⟩ :: (Lf ++ Lo)) := Hf
     rw [fndV_put] at Hf
     have hgeH : ∀ {L : List Blk}, SH w0 S w L → ∀ g ∈ L.map (·.g), wB.heap.size ≤ g := fun {L} H g hg => by
      obtain ⟨b, hb, rfl⟩ := List.mem_map.1 hg
      rcases H.may b hb with h | h
      ·exact Nat.le_trans hB.size h
      ·exact hge _ h
     rw [takes_bet] at Hf ⊢
     by_cases htk : takesB n l ts ns hd rt s o = true
     ·rw [if_pos htk, if_pos htk, if_pos htk] at Hf
      rw [if_pos htk]
      have H2 := Hf.drop (List.Sublist.cons_cons _ (List.sublist_append_right Lf Lo))
      exact ⟨_, ⟨hgeH H2, fun x hx => by cases hx; omega, B', cb', Lo, rfl, hOo⟩, H2⟩
     ·rw [if_neg htk, if_neg htk, if_neg htk] at Hf
      rw [if_neg htk]
      have H2 := Hf.drop (List.Sublist.cons_cons _ (List.sublist_append_left Lf Lo))
      exact ⟨_, ⟨hgeH H2, hxl, A', c', Lf, rfl, hOF⟩, H2⟩
    refine Y.z <| ⟨(H), ?_⟩
    refine Y.dn ?_
    exact ⟨Y.ag, Hf⟩
   ·try replace Hf := Hf.toBelow hbw2
    try replace hW := hW.trans (hbw2.mono hW.size)
    refine OPS.call (d := some 19) rfl rfl rfl (EvC.func (fun_run rfl)) (slClone O o co w (ho.below hW) (by omega) hO) ?_
    rintro _ w ⟨B', cb', Lo, rfl, hOo, Hc⟩
    refine ⟨_, rfl, ?_⟩
    replace hW := hW.trans (Hc.below.mono hW.size)
    replace Hf := SH.call (L1 := _ :: Lf) (Lv := []) (by simpa using Hf) Hc
    clear Hc
    have H := Hf.drop (List.nil_sublist _)
    refine Y.z <| ⟨(H), ?_⟩
    refine Y.A2 0 5 rfl rfl rfl ?_ ?_
    ·try replace Hf := Hf.toBelow hbw2
     refine Y.v (Ev.loadO 0 Hf rfl (agg_run rfl) (size_run rfl) (fndV_len n l ts ns hd rt s A' c') rfl) <| Y.z <| ⟨(H), ?_⟩
     refine Y.A1 5 rfl rfl <| OPS.call (d := some 22) rfl rfl rfl (EvC.func (fun_run rfl)) (routeMoved n hd A B C O l ts ns o ca cb cc co w (hn.below (hbel Hf)) hm (ho.below hW) (by omega) hin) ?_
     rintro _ w ⟨rfl, hb'⟩
     refine ⟨_, rfl, ?_⟩
     replace Hf := Hf.toBelow hb'
     replace hW := hW.trans (hb'.mono hW.size)
     clear hb'
     have H := Hf.drop (List.nil_sublist _)
     refine Y.z <| ⟨(H), ?_⟩
     refine Y.t 7 H rfl rfl (fun w H => Ev.build (bld_136_0_1_2_3 rfl rfl rfl rfl)) <| Y.A1 8 rfl rfl <| OPS.call (d := some 25) rfl rfl rfl (EvC.func (fun_run rfl)) (betterO n l ts ns hd rt s A' c' B' o cb' w (fun x hx => ⟨by subst hx; exact (OwnS.ones (R := _ :: Lo) hOF (Hf.perm (List.Perm.cons _ List.perm_append_comm))).1, hxl x hx⟩) (hOo.ones Hf).1 (by omega)) ?_
     rintro _ w ⟨rfl, hb'⟩
     refine ⟨_, rfl, ?_⟩
     replace Hf := Hf.toBelow hb'
     clear hb'
     have H := Hf.drop (List.nil_sublist _)
     refine Y.z <| ⟨(H), ?_⟩
     refine Y.A1 9 rfl rfl <| OPS.store (vs := fndV n l ts ns hd rt (bet (mvL ns) (secsD n l ts ns hd rt) s (some o)) (if takesB n l ts ns hd rt s o = true then B' else A') (if takesB n l ts ns hd rt s o = true then cb' else c')) 0 _ rfl rfl rfl (size_run rfl) rfl (cA rfl) (fndV_len n l ts ns hd rt _ _ _) (fndV_one n l ts ns hd rt _ _ _) Hf rfl (by rw [fndV_len]; exact Nat.le_refl _) ?_
     clear H Hf; intro w Hf
     have H := Hf.drop (List.nil_sublist _)
     replace Hf : ∃ Lv', VisR n l ts ns hd rt wB g7 (bet (mvL ns) (secsD n l ts ns hd rt) s (some o)) Lv' ∧ SH w0 S w Lv' := by
      replace Hf : SH w0 S w (⟨g7, 136, putL (fndV n l ts ns hd rt s A' c') 0 (fndV n l ts ns hd rt (bet (mvL ns) (secsD n l ts ns hd rt) s (some o)) (if takesB n l ts ns hd rt s o = true then B' else A') (if takesB n l ts ns hd rt s o = true then cb' else c'))⟩ :: (Lf ++ Lo)) := Hf
      rw [fndV_put] at Hf
      have hgeH : ∀ {L : List Blk}, SH w0 S w L → ∀ g ∈ L.map (·.g), wB.heap.size ≤ g := fun {L} H g hg => by
       obtain ⟨b, hb, rfl⟩ := List.mem_map.1 hg
       rcases H.may b hb with h | h
       ·exact Nat.le_trans hB.size h
       ·exact hge _ h
      rw [takes_bet] at Hf ⊢
      by_cases htk : takesB n l ts ns hd rt s o = true
      ·rw [if_pos htk, if_pos htk, if_pos htk] at Hf
       rw [if_pos htk]
       have H2 := Hf.drop (List.Sublist.cons_cons _ (List.sublist_append_right Lf Lo))
       exact ⟨_, ⟨hgeH H2, fun x hx => by cases hx; omega, B', cb', Lo, rfl, hOo⟩, H2⟩
      ·rw [if_neg htk, if_neg htk, if_neg htk] at Hf
       rw [if_neg htk]
       have H2 := Hf.drop (List.Sublist.cons_cons _ (List.sublist_append_left Lf Lo))
       exact ⟨_, ⟨hgeH H2, hxl, A', c', Lf, rfl, hOF⟩, H2⟩
     refine Y.z <| ⟨(H), ?_⟩
     refine Y.dn ?_
     exact ⟨Y.ag, Hf⟩
    ·refine OPS.call (d := some 22) rfl rfl rfl (EvC.func (fun_run rfl)) (routeMoved n hd A B C O l ts ns o ca cb cc co w (hn.below (hbel Hf)) hm (ho.below hW) (by omega) hin) ?_
     rintro _ w ⟨rfl, hb'⟩
     refine ⟨_, rfl, ?_⟩
     replace Hf := Hf.toBelow hb'
     replace hW := hW.trans (hb'.mono hW.size)
     clear hb'
     have H := Hf.drop (List.nil_sublist _)
     refine Y.z <| ⟨(H), ?_⟩
     refine Y.t 7 H rfl rfl (fun w H => Ev.build (bld_136_0_1_2_3 rfl rfl rfl rfl)) <| Y.A1 0 rfl rfl ?_
     try replace Hf := Hf.toBelow hbw2
     refine Y.v (Ev.loadO 0 Hf rfl (agg_run rfl) (size_run rfl) (fndV_len n l ts ns hd rt s A' c') rfl) <| Y.z <| ⟨(H), ?_⟩
     refine Y.A1 8 rfl rfl <| OPS.call (d := some 25) rfl rfl rfl (EvC.func (fun_run rfl)) (betterO n l ts ns hd rt s A' c' B' o cb' w (fun x hx => ⟨by subst hx; exact (OwnS.ones (R := _ :: Lo) hOF (Hf.perm (List.Perm.cons _ List.perm_append_comm))).1, hxl x hx⟩) (hOo.ones Hf).1 (by omega)) ?_
     rintro _ w ⟨rfl, hb'⟩
     refine ⟨_, rfl, ?_⟩
     replace Hf := Hf.toBelow hb'
     clear hb'
     have H := Hf.drop (List.nil_sublist _)
     refine Y.z <| ⟨(H), ?_⟩
     refine Y.A1 9 rfl rfl <| OPS.store (vs := fndV n l ts ns hd rt (bet (mvL ns) (secsD n l ts ns hd rt) s (some o)) (if takesB n l ts ns hd rt s o = true then B' else A') (if takesB n l ts ns hd rt s o = true then cb' else c')) 0 _ rfl rfl rfl (size_run rfl) rfl (cA rfl) (fndV_len n l ts ns hd rt _ _ _) (fndV_one n l ts ns hd rt _ _ _) Hf rfl (by rw [fndV_len]; exact Nat.le_refl _) ?_
     clear H Hf; intro w Hf
     have H := Hf.drop (List.nil_sublist _)
     replace Hf : ∃ Lv', VisR n l ts ns hd rt wB g7 (bet (mvL ns) (secsD n l ts ns hd rt) s (some o)) Lv' ∧ SH w0 S w Lv' := by
      replace Hf : SH w0 S w (⟨g7, 136, putL (fndV n l ts ns hd rt s A' c') 0 (fndV n l ts ns hd rt (bet (mvL ns) (secsD n l ts ns hd rt) s (some o)) (if takesB n l ts ns hd rt s o = true then B' else A') (if takesB n l ts ns hd rt s o = true then cb' else c'))⟩ :: (Lf ++ Lo)) := Hf
      rw [fndV_put] at Hf
      have hgeH : ∀ {L : List Blk}, SH w0 S w L → ∀ g ∈ L.map (·.g), wB.heap.size ≤ g := fun {L} H g hg => by
       obtain ⟨b, hb, rfl⟩ := List.mem_map.1 hg
       rcases H.may b hb with h | h
       ·exact Nat.le_trans hB.size h
       ·exact hge _ h
      rw [takes_bet] at Hf ⊢
      by_cases htk : takesB n l ts ns hd rt s o = true
      ·rw [if_pos htk, if_pos htk, if_pos htk] at Hf
       rw [if_pos htk]
       have H2 := Hf.drop (List.Sublist.cons_cons _ (List.sublist_append_right Lf Lo))
       exact ⟨_, ⟨hgeH H2, fun x hx => by cases hx; omega, B', cb', Lo, rfl, hOo⟩, H2⟩
      ·rw [if_neg htk, if_neg htk, if_neg htk] at Hf
       rw [if_neg htk]
       have H2 := Hf.drop (List.Sublist.cons_cons _ (List.sublist_append_left Lf Lo))
       exact ⟨_, ⟨hgeH H2, hxl, A', c', Lf, rfl, hOF⟩, H2⟩
     refine Y.z <| ⟨(H), ?_⟩
     refine Y.dn ?_
     exact ⟨Y.ag, Hf⟩
  clear H
  rintro u w ⟨Lv', hR, H⟩
  refine ⟨_, rfl, ?_⟩
  exact ⟨_, rfl, hR, H⟩
 have hfe : ¬ walkE n l ts ns hd rt o = 0 := by simpa using hc1
 have hvis : visB (mvL ns) (secsD n l ts ns hd rt) (feasB n l ts ns hd rt) s o = s := if_neg (by simpa [feasB] using hfe)
 rw [hvis]
 have hR : VisR n l ts ns hd rt wB g7 s (⟨g7, 136, fndV n l ts ns hd rt s A' c'⟩ :: Lf) := ⟨by rw [← hS]; exact hge, hxl, A', c', Lf, rfl, hOF⟩
 refine Y.k <| ⟨_, rfl, ?_⟩
 exact ⟨_, rfl, hR, H⟩
end Go.Proofs.YtgcokllbophkkaaGreat
namespace Go.Proofs.YtgcokllbophkkaaGreat
open Go Go.W Go.RowKit
theorem routeBest (n hd rt : Int) (A B C R : Option Addr) (l : List Edg) (ts : List Truck) (ns : List Need) (rn : List Int) (ca cb cc cr : Nat) (w0 : World) (hz : EdgsAt w0 A l) (ht : RowsAt 4 truckCells w0 B ts) (hn : RowsAt 2 needCells w0 C ns) (hcc : ns.length ≤ cc)
  (hm : ∀ x ∈ ns, -32 ≤ x.move ∧ x.move ≤ 32) (hns : ns.length ≤ 16) (hr : IntsAt w0 R rn) (hrl : rn.length ≤ 16) (hnd : rn.Nodup) (hin : ∀ i ∈ rn, 0 ≤ i ∧ i < ns.length) :
  Calls Tryz.prog 82 #[.agg #[I n, .slice A l.length ca, .slice B ts.length cb, .slice C ns.length cc, I hd], I rt, .slice R rn.length cr] w0 fun e w' => ∃ s A' c' Lf, e = .returned (.agg (fndV n l ts ns hd rt s A' c').toArray) ∧ IsBest (mvL ns) (secsD n l ts ns hd rt) (fun o => o.Perm rn ∧ walkE n l ts ns hd rt o = 0) s ∧ (∀ x, s = some x → x.length ≤ 1000) ∧ OwnF s A' c' Lf ∧ SH w0 [] w' Lf := by
 have H := SH.refl w0
 refine Calls.ofWPc Tryz.func82 rfl Tryz.results82 Tryz.ntmps82 rfl <| Y.qr <| Y.bx (cA rfl) H ?_
 clear H; intro g3 w H
 refine OPS.box rfl rfl rfl rfl (cI rfl) H ?_
 clear H; intro g4 w H
 refine Y.al H rfl rfl ?_
 clear H; intro g6 w H
 refine Y.z <| Y.q ?_
 have H1 := H
 generalize w = wB at *
 replace H := SH.refl wB
 refine Y.r <| Y.al H rfl rfl ?_
 clear H; intro g7 w H
 refine Y.z <| Y.qr <| Y.v (Ev.mvS rfl) <| Y.v (Ev.makeFunc) ?_
 refine OPS.call (d := some 10) rfl rfl rfl (EvC.func (fun_run rfl)) (routeOrders (σ := Option (List Int)) (VisR n l ts ns hd rt wB g7) (visB (mvL ns) (secsD n l ts ns hd rt) (feasB n l ts ns hd rt)) 106 [Value.pointer (some ⟨g3, 0, none⟩), Value.pointer (some ⟨g4, 0, none⟩), Value.pointer (some ⟨g7, 0, none⟩)] wB rfl rn (fun s Lv w O o co h1 h2 h3 h4 h5 h6 h7 => routeBestV n hd rt A B C l ts ns ca cb cc g3 g4 g7 wB (hz.sh H1) (ht.sh H1) (hn.sh H1) hcc (cellsAt_own H1 2 rfl _ 0 (fun j hj => by rw [Nat.zero_add]; exact List.getElem?_eq_getElem hj)) (H1.ldL 1 rfl 0 rfl) hm s Lv w O o co h1 h2 h3 h4 h5 h6 (by rw [h7.length_eq]; exact hrl)) R cr w ((hr.sh H1).sh H) hrl hnd (fun x hx => by have := hin x hx; omega) none [⟨g7, 136, fndV n l ts ns hd rt none none 0⟩] ⟨H.fresh, (fun x hx => absurd hx (by simp)), none, 0, [], rfl, rfl⟩ (H.restart (List.Sublist.refl _)) H.below H.fresh) ?_
 rintro _ w ⟨V, Lv', rfl, hV, hR, Hc⟩
 refine ⟨_, rfl, ?_⟩
 have H2 := SH.call (L1 := [_, _, _]) (Lv := []) H1 H
 replace H := SH.call (L1 := [_, _, _]) (Lv := [_]) H2 Hc
 clear Hc H1 H2
 obtain ⟨_, hxl, A', c', Lf, rfl, hOF⟩ := hR
 have hbest := (IsBest.fold (m := mvL ns) (d := secsD n l ts ns hd rt) (F := feasB n l ts ns hd rt) (V := V) IsBest.zero).congr (C' := fun o => o.Perm rn ∧ walkE n l ts ns hd rt o = 0) (fun x => by simp [hV, feasB])
 generalize V.foldl (visB (mvL ns) (secsD n l ts ns hd rt) (feasB n l ts ns hd rt)) none = s at *
 have hlen := fndV_len n l ts ns hd rt s A' c'
 simp only [List.cons_append, List.nil_append] at H
 refine Y.z <| Y.qr <| Y.v (Ev.loadO 3 H rfl (agg_run rfl) (size_run rfl) hlen rfl) <| OPS.store (vs := fndV n l ts ns hd rt s A' c') 0 _ rfl rfl rfl (size_run rfl) rfl (cA rfl) hlen (fndV_one n l ts ns hd rt s A' c') H rfl (by simp) ?_
 clear H; intro w H
 replace H : SH w0 [] w (⟨g6, 136, putL (fndV n l ts ns hd rt none none 0) 0 (fndV n l ts ns hd rt s A' c')⟩ :: _) := H
 rw [fndV_put] at H
 refine Y.z ?_
 refine WP.ret ⟨[_], ⟨(by exact resCellA 0 H rfl (agg_run rfl) (size_run rfl) (by assumption) rfl), trivial⟩, ?_⟩
 exact ⟨s, A', c', Lf, rfl, hbest, hxl, hOF, H.drop ((((List.Sublist.refl _).cons _).cons _).cons _ |>.cons _)⟩
end Go.Proofs.YtgcokllbophkkaaGreat
namespace Go.Proofs.YtgcokllbophkkaaGreat
open Go Go.W Go.RowKit
section
variable (n : Int) (l : List Edg) (ts : List Truck) (ns : List Need) (hd rt : Int) (rn : List Int)
def SubP (o : List Int) : Prop := (o.Nodup ∧ ∀ i ∈ o, i ∈ rn) ∧ walkE n l ts ns hd rt o = 0
inductive MostAns : Int → Int → List Int → Prop
 | no (h : askErr n l ts ns hd rt rn ≠ 0) : MostAns (askErr n l ts ns hd rt rn) 0 []
 | ok (h : askErr n l ts ns hd rt rn = 0) (s : Option (List Int)) (hb : IsBest (mvL ns) (secsD n l ts ns hd rt) (SubP n l ts ns hd rt rn) s) : MostAns 0 rt (s.getD [])
end
theorem ask_ok {n : Int} {l : List Edg} {ts : List Truck} {ns : List Need} {hd rt : Int} {rn : List Int} (h : askErr n l ts ns hd rt rn = 0) :
  nightErr n l ts ns hd = 0 ∧ routeErr ts ns rt rn = 0 ∧ rn.length ≤ 6 := by
 unfold askErr at h
 split at h
 ·rename_i h1; exact absurd h h1
 ·rename_i h1
  split at h
  ·rename_i h2; exact absurd h h2
  ·rename_i h2
   split at h
   ·cases h
   ·exact ⟨Classical.not_not.1 h1, Classical.not_not.1 h2, by omega⟩
end Go.Proofs.YtgcokllbophkkaaGreat
namespace Go.Proofs.YtgcokllbophkkaaGreat
open Go Go.W Go.RowKit
section
variable {P : Program} {e : Env} {w : World} {ty t : TypeId} {x y : Operand}
theorem Ev.shl1 {t' : TypeId} {j : Nat} (hx : ev e x = .int .i64 1) (hy : ev e y = .int .i64 j) (h : j ≤ 62) : Ev P e w ty (.binOp .shl t x y t') (.int .i64 ((2 ^ j : Nat) : Int)) :=
 Ev.bin hx hy fun w => by
  have h1 : (2 : Nat) ^ j ≤ 4611686018427387904 := Nat.le_trans (Nat.pow_le_pow_right (by decide) h) (by decide)
  have h2 : ((2 ^ j : Nat) : Int) ≤ 4611686018427387904 := Int.ofNat_le.2 h1
  have h3 : (0 : Int) ≤ ((2 ^ j : Nat) : Int) := Int.natCast_nonneg _
  have h4 : (1 : Int) * 2 ^ ((j : Int)).toNat = ((2 ^ j : Nat) : Int) := by rw [Int.toNat_natCast, Int.one_mul, Int.natCast_pow]; rfl
  rw [binOp_shl, shift_shl _ _ _ _ (by omega) (show ((j : Nat) : Int) ≤ ((64 : Nat) : Int) by omega), h4, wrap_fits (by unfold fits; omega)]
  rfl
theorem Ev.shrN {t' : TypeId} {a j : Nat} (hx : ev e x = .int .i64 a) (hy : ev e y = .int .i64 j) (h : j ≤ 62) : Ev P e w ty (.binOp .shr t x y t') (.int .i64 ((a / 2 ^ j : Nat) : Int)) :=
 Ev.bin hx hy fun w => by
  rw [binOp_shr, shift_shr _ _ _ _ (by omega) (show ((j : Nat) : Int) ≤ ((64 : Nat) : Int) by omega)]
  simp
theorem i64_and1 (n : Int) : bits .and .i64 n 1 = n % 2 := by
 have h127 : (BitVec.ofInt 64 1).toNat = 2 ^ 1 - 1 := by decide
 have key : (BitVec.ofInt 64 n &&& BitVec.ofInt 64 1).toNat = (n % ((2 ^ 64 : Nat) : Int)).toNat % 2 ^ 1 := by
  rw [BitVec.toNat_and, BitVec.toNat_ofInt, h127, Nat.and_two_pow_sub_one_eq_mod]
 show IntKind.i64.wrap ((BitVec.ofInt 64 n &&& BitVec.ofInt 64 1).toNat : Nat) = n % 2
 rw [key, IntKind.wrap_i64]
 omega
theorem Ev.and1 {t' : TypeId} {a : Nat} (hx : ev e x = .int .i64 a) (hy : ev e y = .int .i64 1) : Ev P e w ty (.binOp .and t x y t') (.int .i64 ((a % 2 : Nat) : Int)) :=
 Ev.bin hx hy fun w => by
  rw [binOp_and, intBits_and, i64_and1]
  simp
end
theorem outB_or (k : Nat) (i : Int) : outB k i = (decide (i < 0) || decide ((k : Int) ≤ i)) := by
 unfold outB inB
 rw [Bool.eq_iff_iff]; simp; omega
end Go.Proofs.YtgcokllbophkkaaGreat
namespace Go.Proofs.YtgcokllbophkkaaGreat
open Go Go.W Go.RowKit
theorem pickS_take {rn : List Int} {j i : Nat} (h : j < rn.length) : pickS (rn.take (j + 1)) i = pickS (rn.take j) i ++ if (i / 2 ^ j) % 2 = 1 then [rn[j]] else [] := by
 rw [List.take_succ_eq_append_getElem h, pickS_snoc, List.length_take, Nat.min_eq_left (by omega)]
section
variable (n : Int) (l : List Edg) (ts : List Truck) (ns : List Need) (hd rt : Int) (rn : List Int)
def UpTo (j : Nat) (o : List Int) : Prop := ∃ i, i < j ∧ o.Perm (pickS rn i) ∧ walkE n l ts ns hd rt o = 0
theorem bet_or {m d : List Int → Int} (s s2 : Option (List Int)) : bet m d s s2 = s ∨ bet m d s s2 = s2 := by
 cases s with
 | none => exact .inr rfl
 | some x =>
  cases s2 with
  | none => exact .inl rfl
  | some y =>
   by_cases h : worse m d x y
   ·exact .inr (if_pos h)
   ·exact .inl (if_neg h)
theorem bet_none {m d : List Int → Int} (s : Option (List Int)) : bet m d s none = s := by cases s <;> rfl
end
theorem routeMostX (n hd rt : Int) (A B C R : Option Addr) (l : List Edg) (ts : List Truck) (ns : List Need) (rn : List Int) (ca cb cc cr : Nat) (w0 : World) (hz : EdgsAt w0 A l) (ht : RowsAt 4 truckCells w0 B ts) (hn : RowsAt 2 needCells w0 C ns) (hcc : ns.length ≤ cc) (hr : IntsAt w0 R rn) (hrl : rn.length ≤ 1000) :
  Calls Tryz.prog 50 #[.agg #[I n, .slice A l.length ca, .slice B ts.length cb, .slice C ns.length cc, I hd], I rt, .slice R rn.length cr] w0 fun e w' => ∃ (er r0 : Int) (x : List Int) (X : Option Addr) (c : Nat) (Lf : List Blk), e = .returned (.tuple #[.agg #[I r0, .slice X x.length c], I er]) ∧ MostAns n l ts ns hd rt rn er r0 x ∧ OwnS X c x.length (x.map I) 3 1 Lf ∧ SH w0 [] w' Lf := by
 have H := SH.refl w0
 refine Calls.ofWPc Tryz.func50 rfl Tryz.results50 Tryz.ntmps50 rfl <| Y.qr <| Y.bx (cA rfl) H ?_
 clear H; intro g3 w H
 refine Y.al H rfl rfl ?_
 clear H; intro g6 w H
 refine Y.b rfl <| Y.z <| Y.q <| Y.qr <| Y.v (Y.o H 1 rfl rfl) <| Y.a rfl <| Y.v (Ev.mvS rfl) <| OPS.call (d := some 18) rfl rfl rfl (EvC.func (fun_run rfl)) (routeCheck n hd rt A B C R l ts ns rn ca cb cc cr w (hz.sh H) (ht.sh H) (hn.sh H) hcc (hr.sh H) hrl) ?_
 rintro _ w ⟨rfl, hb⟩
 refine ⟨_, rfl, ?_⟩
 replace H := H.toBelow hb; clear hb
 refine Y.b rfl <| Y.z <| Y.qr <| Y.a rfl <| Y.v (Ev.neq rfl rfl) <| Y.z ?_
 refine WP.cond rfl (fun hc2 => ?_) (fun hc2 => ?_)
 ·refine Y.qr <| Y.v (Ev.build (bld_49_ (e := fun _ => .int .i64 0))) <| Y.a rfl <| Y.ss 0 H rfl (cA rfl) rfl ?_
  clear H; intro w H
  refine Y.b rfl <| Y.z ?_
  refine WP.ret ⟨[_, _], ⟨(by exact resCellA 0 H rfl (agg_run rfl) (size_run rfl) (by rfl) rfl), rfl, trivial⟩, ?_⟩
  have h : askErr n l ts ns hd rt rn ≠ 0 := by simpa using hc2
  exact ⟨_, _, [], none, 0, [], rfl, .no h, OwnS.nil, H.drop (List.nil_sublist _)⟩
 have h0 : askErr n l ts ns hd rt rn = 0 := by simpa using hc2
 obtain ⟨hN0, hR0, hl6⟩ := ask_ok h0
 obtain ⟨m, rfl, hN⟩ := nightOk_of hN0
 obtain ⟨_, hin, hnd, _⟩ := routeOk_of hR0
 have hm : ∀ x ∈ ns, -32 ≤ x.move ∧ x.move ≤ 32 := fun x hx => (hN.nd x hx).2.2
 have h64 : 2 ^ rn.length ≤ 64 := Nat.pow_le_pow_right (n := 2) (by decide) hl6
 refine Y.k <| Y.qr <| Y.al H rfl rfl ?_
 clear H; intro g9 w H
 refine Y.z <| Y.q <| Y.qr <| Y.v (Ev.mvS rfl) <| Y.v (Y.n rfl) <| Y.v (Ev.shl1 rfl rfl (by omega)) <| Y.a rfl <| Y.z <| WP.block <| WP.loop [10, 11, 12, 13, 14, 26, 27, 28, 29, 30, 31, 32, 33, 34, 35, 36, 37, 38, 39, 40, 41, 42, 43, 44, 45, 46, 47, 48, 49, 50, 51, 52, 53, 54, 55] (fun k e w' => ∃ (j : Nat) (s : Option (List Int)) (A' : Option Addr) (c' : Nat) (Lf : List Blk), j + k = 2 ^ rn.length ∧ e 26 = I j ∧ IsBest (mvL ns) (secsD m l ts ns hd rt) (UpTo m l ts ns hd rt rn j) s ∧ (∀ x, s = some x → x.length ≤ 1000) ∧ OwnF s A' c' Lf ∧ SH w0 [] w' ([⟨g9, 136, fndV m l ts ns hd rt s A' c'⟩, ⟨g6, 49, [I 0, .slice none 0 0]⟩, ⟨g3, 28, [I m, .slice A l.length ca, .slice B ts.length cb, .slice C ns.length cc, I hd]⟩] ++ Lf)) ((2 ^ rn.length)) (⟨0, none, none, 0, [], by omega, rfl, (fun o => by rintro ⟨i, hi, _⟩; omega), (fun x hx => absurd hx (by simp)), rfl, H⟩) ?_
 clear H
 rintro k u w ⟨j, s, A', c', Lf, hk, h26, hbest, hxl, hOF, H⟩
 refine WP.know (t := 26) h26 <| Y.qr <| Y.v (Ev.lss rfl rfl) <| Y.z <| Y.q ?_
 refine WP.cond rfl (fun hc6 => ?_) (fun hc6 => ?_)
 ·have hlt : j < 2 ^ rn.length := by
   have h : (j : Int) < ((2 ^ rn.length : Nat) : Int) := by simpa using hc6
   omega
  refine Y.k <| Y.q <| WP.block <| Y.qr <| Y.a rfl <| Y.b rfl <| Y.z <| Y.qr <| Y.v (Ev.asS rfl) <| Y.z <| Y.q <| Y.qr <| Y.v (Ev.mvS rfl) <| Y.v (Y.n rfl) <| Y.a rfl <| Y.z <| WP.block <| WP.loop [11, 12, 13, 31, 32, 33, 34, 35, 36, 37, 38, 39, 40, 41, 42, 43, 44, 45] (fun k e w' => ∃ (i : Nat) (X : Option Addr) (cx : Nat) (Lx : List Blk), i + k = rn.length ∧ e 31 = I i ∧ e 11 = .slice X (pickS (rn.take i) j).length cx ∧ OwnS X cx (pickS (rn.take i) j).length ((pickS (rn.take i) j).map I) 3 1 Lx ∧ SH w0 [] w' (([⟨g9, 136, fndV m l ts ns hd rt s A' c'⟩, ⟨g6, 49, [I 0, .slice none 0 0]⟩, ⟨g3, 28, [I m, .slice A l.length ca, .slice B ts.length cb, .slice C ns.length cc, I hd]⟩] ++ Lf) ++ Lx)) (rn.length) (⟨0, none, 0, [], by omega, rfl, rfl, OwnS.nil, by rw [List.append_nil]; exact H⟩) ?_
  clear H
  rintro k2 u2 w ⟨i, X, cx, Lx, hk2, h31, h11, hOX, H⟩
  refine WP.know (t := 31) h31 (WP.know (t := 11) h11 ?_)
  refine Y.qr <| Y.v (Ev.lss rfl rfl) <| Y.z <| Y.q ?_
  refine WP.cond rfl (fun hc10 => ?_) (fun hc10 => ?_)
  ·have hil : i < rn.length := by simpa using hc10
   obtain ⟨br, orr, rfl, hx⟩ := hr i hil
   have hpk := pickS_take (i := j) hil
   have hpl : (pickS (rn.take i) j).length ≤ i := by
    have := (pickS_sub (rn.take i) j).length_le
    rw [List.length_take] at this; omega
   refine Y.k <| Y.q <| WP.block <| Y.qr <| Y.a rfl <| Y.v (Y.x rfl rfl rfl rfl) <| Y.v (Y.c (H.ld0 (by assumption)) rfl) ?_
   refine Y.b rfl <| Y.b rfl <| Y.z <| Y.qr <| Y.a rfl <| Y.a rfl <| Y.v (Ev.shrN rfl rfl (by omega)) <| Y.v (Ev.and1 rfl rfl) <| Y.v (Ev.eql rfl rfl) <| Y.z ?_
   refine WP.cond rfl (fun hc12 => ?_) (fun hc12 => ?_)
   ·have hbit : (j / 2 ^ i) % 2 = 1 := by
     have h : (((j / 2 ^ i) % 2 : Nat) : Int) = 1 := by simpa using hc12
     omega
    rw [if_pos hbit] at hpk
    refine Y.r <| Y.v (Ev.mvS rfl) <| Y.a rfl <| OPS.buildSlice rfl rfl rfl rfl (bsl_32_1_0 rfl) H ?_
    clear H; intro g43 w H
    refine OPS.append (m := 1) (news := [I rn[i]]) (R := ⟨g43, 3, [I rn[i]]⟩ :: ([⟨g9, 136, fndV m l ts ns hd rt s A' c'⟩, ⟨g6, 49, [I 0, .slice none 0 0]⟩, ⟨g3, 28, [I m, .slice A l.length ca, .slice B ts.length cb, .slice C ns.length cc, I hd]⟩] ++ Lf)) rfl rfl rfl rfl rfl (sl_run rfl) rfl rfl hOX rfl (src_own H 0 rfl) rfl (by omega) (by unfold maxLen; omega) H (List.Perm.refl _) ?_
    clear H hOX; intro X cx Lx w hOX H
    replace H := H.drop (List.sublist_cons_self _ _)
    refine Y.v (Ev.asS rfl) <| Y.z <| Y.r <| Y.v (Y.p rfl rfl) <| Y.a rfl <| Y.z ?_
    first
     | exact ⟨Y.ag, k2 - 1, by omega, i + 1, X, cx, Lx, by omega, rfl, by rw [hpk, List.length_append]; rfl, by rw [hpk, List.length_append, List.map_append]; exact hOX, H⟩
     | exact ⟨Y.ag, k2 - 1, by omega, i + 1, X, cx, Lx, by omega, rfl, by rw [hpk]; rfl, by rw [hpk]; exact hOX, H⟩
   have hbit : ¬ (j / 2 ^ i) % 2 = 1 := by
    have h : ¬ (((j / 2 ^ i) % 2 : Nat) : Int) = 1 := by simpa using hc12
    omega
   rw [if_neg hbit, List.append_nil] at hpk
   refine Y.k <| Y.r <| Y.v (Y.p rfl rfl) <| Y.a rfl <| Y.z ?_
   first
    | exact ⟨Y.ag, k2 - 1, by omega, i + 1, X, cx, Lx, by omega, rfl, by rw [hpk, List.length_append]; rfl, by rw [hpk, List.length_append, List.map_append]; exact hOX, H⟩
    | exact ⟨Y.ag, k2 - 1, by omega, i + 1, X, cx, Lx, by omega, rfl, by rw [hpk]; rfl, by rw [hpk]; exact hOX, H⟩
  have hi : i = rn.length := by simp at hc10; omega
  subst hi
  rw [List.take_length] at hOX
  rw [List.take_length]
  have hys := pickS_sub rn j
  have hyl := hys.length_le
  have hynd : (pickS rn j).Nodup := hnd.sublist hys
  have hyin : ∀ i ∈ pickS rn j, 0 ≤ i ∧ i < ns.length := fun i hi => hin i (hys.subset hi)
  refine WP.exit <| XB.hit <| Y.qr <| Y.v (Y.o H 2 rfl rfl) <| Y.a rfl <| Y.v (Ev.mvS rfl) <| OPS.call (d := some 49) rfl rfl rfl (EvC.func (fun_run rfl)) (routeBest m hd rt A B C X l ts ns (pickS rn j) ca cb cc cx w (hz.sh H) (ht.sh H) (hn.sh H) hcc hm hN.nl (hOX.ones H).1 (by omega) hynd hyin) ?_
  rintro _ w ⟨s2, A2, c2, L2, rfl, hb2, hxl2, hOF2, Hc⟩
  refine ⟨_, rfl, ?_⟩
  replace H := SH.call (L1 := _) (Lv := []) (by rw [List.append_nil]; exact H.drop (List.sublist_append_left _ Lx)) Hc
  clear Hc
  have hlen2 := fndV_len m l ts ns hd rt s2 A2 c2
  have hok2 : (fndV m l ts ns hd rt s2 A2 c2)[3]? = some (.bool s2.isSome) := by cases s2 <;> rfl
  have hb3 : IsBest (mvL ns) (secsD m l ts ns hd rt) (UpTo m l ts ns hd rt rn (j + 1)) (bet (mvL ns) (secsD m l ts ns hd rt) s s2) := (hbest.union hb2).congr fun o => by
   constructor
   ·rintro (⟨i, h1, h2⟩ | h)
    ·exact ⟨i, by omega, h2⟩
    ·exact ⟨j, by omega, h⟩
   ·rintro ⟨i, h1, h2⟩
    by_cases h : i = j
    ·subst h; exact .inr h2
    ·exact .inl ⟨i, by omega, h2⟩
  have hxl3 : ∀ x, bet (mvL ns) (secsD m l ts ns hd rt) s s2 = some x → x.length ≤ 1000 := fun x hx => by
   rcases bet_or (m := mvL ns) (d := secsD m l ts ns hd rt) s s2 with h | h
   ·exact hxl x (h ▸ hx)
   ·exact hxl2 x (h ▸ hx)
  refine Y.al H rfl rfl ?_
  clear H; intro g14 w H
  refine OPS.store (vs := fndV m l ts ns hd rt s2 A2 c2) 0 _ rfl rfl rfl (size_run rfl) rfl (cA rfl) hlen2 (fndV_one m l ts ns hd rt s2 A2 c2) H rfl (by simp) ?_
  clear H; intro w H
  replace H : SH w0 [] w (⟨g14, 136, putL (fndV m l ts ns hd rt none none 0) 0 (fndV m l ts ns hd rt s2 A2 c2)⟩ :: _) := H
  rw [fndV_put] at H
  refine Y.z <| Y.qr <| Y.fa rfl rfl <| Y.v (Y.c (H.ldL 0 rfl 3 hok2) rfl) <| Y.z ?_
  refine WP.cond rfl (fun hc16 => ?_) (fun hc16 => ?_)
  ·obtain ⟨y, rfl⟩ : ∃ y, s2 = some y := Option.isSome_iff_exists.1 (by simpa using hc16)
   refine Y.r <| Y.v (Ev.loadO 1 H rfl (agg_run rfl) (size_run rfl) (fndV_len m l ts ns hd rt s A' c') rfl) <| Y.v (Ev.loadO 0 H rfl (agg_run rfl) (size_run rfl) hlen2 rfl) <| OPS.call (d := some 54) rfl rfl rfl (EvC.func (fun_run rfl)) (betterO m l ts ns hd rt s A' c' A2 y c2 w (fun x hx => ⟨by subst hx; exact (OwnS.ones hOF (H.drop ((List.sublist_append_left _ L2).trans (List.sublist_cons_self _ _)))).1, hxl x hx⟩) (OwnS.ones hOF2 (Y.d1 H)).1 (hxl2 y rfl)) ?_
   rintro _ w ⟨rfl, hb⟩
   refine ⟨_, rfl, ?_⟩
   replace H := H.toBelow hb; clear hb
   refine OPS.store (vs := fndV m l ts ns hd rt (bet (mvL ns) (secsD m l ts ns hd rt) s (some y)) (if takesB m l ts ns hd rt s y = true then A2 else A') (if takesB m l ts ns hd rt s y = true then c2 else c')) 1 _ rfl rfl rfl (size_run rfl) rfl (cA rfl) (fndV_len m l ts ns hd rt _ _ _) (fndV_one m l ts ns hd rt _ _ _) H rfl (by rw [fndV_len]; exact Nat.le_refl _) ?_
   clear H; intro w H
   replace H : SH w0 [] w (⟨g14, 136, _⟩ :: ⟨g9, 136, putL (fndV m l ts ns hd rt s A' c') 0 (fndV m l ts ns hd rt (bet (mvL ns) (secsD m l ts ns hd rt) s (some y)) (if takesB m l ts ns hd rt s y = true then A2 else A') (if takesB m l ts ns hd rt s y = true then c2 else c'))⟩ :: ⟨g6, 49, [I 0, .slice none 0 0]⟩ :: ⟨g3, 28, [I m, .slice A l.length ca, .slice B ts.length cb, .slice C ns.length cc, I hd]⟩ :: (Lf ++ L2)) := H
   rw [fndV_put] at H
   replace H := H.drop (List.sublist_cons_self _ _)
   obtain ⟨A3, c3, L3, hO3, H3⟩ : ∃ A3 c3 L3, OwnF (bet (mvL ns) (secsD m l ts ns hd rt) s (some y)) A3 c3 L3 ∧ SH w0 [] w ([⟨g9, 136, fndV m l ts ns hd rt (bet (mvL ns) (secsD m l ts ns hd rt) s (some y)) A3 c3⟩, ⟨g6, 49, [I 0, .slice none 0 0]⟩, ⟨g3, 28, [I m, .slice A l.length ca, .slice B ts.length cb, .slice C ns.length cc, I hd]⟩] ++ L3) := by
    rw [takes_bet] at H ⊢
    by_cases htk : takesB m l ts ns hd rt s y = true
    ·rw [if_pos htk, if_pos htk, if_pos htk] at H
     rw [if_pos htk]
     exact ⟨A2, c2, L2, hOF2, H.drop ((((List.sublist_append_right Lf L2).cons_cons _).cons_cons _).cons_cons _)⟩
    ·rw [if_neg htk, if_neg htk, if_neg htk] at H
     rw [if_neg htk]
     exact ⟨A', c', Lf, hOF, H.drop ((((List.sublist_append_left Lf L2).cons_cons _).cons_cons _).cons_cons _)⟩
   refine Y.z <| Y.r <| Y.v (Y.p rfl rfl) <| Y.a rfl <| Y.z ?_
   exact ⟨Y.ag, k - 1, by omega, j + 1, _, A3, c3, L3, by omega, rfl, hb3, hxl3, hO3, H3⟩
  obtain rfl : s2 = none := by simpa using hc16
  obtain ⟨A3, c3, L3, hO3, H3⟩ : ∃ A3 c3 L3, OwnF (bet (mvL ns) (secsD m l ts ns hd rt) s none) A3 c3 L3 ∧ SH w0 [] w ([⟨g9, 136, fndV m l ts ns hd rt (bet (mvL ns) (secsD m l ts ns hd rt) s none) A3 c3⟩, ⟨g6, 49, [I 0, .slice none 0 0]⟩, ⟨g3, 28, [I m, .slice A l.length ca, .slice B ts.length cb, .slice C ns.length cc, I hd]⟩] ++ L3) := by
   rw [bet_none]
   exact ⟨A', c', Lf, hOF, H.drop ((List.sublist_append_left _ L2).trans (List.sublist_cons_self _ _))⟩
  refine Y.k <| Y.r <| Y.v (Y.p rfl rfl) <| Y.a rfl <| Y.z ?_
  exact ⟨Y.ag, k - 1, by omega, j + 1, _, A3, c3, L3, by omega, rfl, hb3, hxl3, hO3, H3⟩
 have hj : j = 2 ^ rn.length := by
  have h : ¬ (j : Int) < ((2 ^ rn.length : Nat) : Int) := by simpa using hc6
  omega
 subst hj
 have hbest' : IsBest (mvL ns) (secsD m l ts ns hd rt) (SubP m l ts ns hd rt rn) s := hbest.congr fun o => by
  constructor
  ·rintro ⟨i, h1, h2, h3⟩
   have hs := pickS_sub rn i
   exact ⟨⟨h2.nodup_iff.2 (hnd.sublist hs), fun x hx => hs.subset (h2.mem_iff.1 hx)⟩, h3⟩
  ·rintro ⟨⟨h1, h2⟩, h3⟩
   obtain ⟨i, h4, h5⟩ := part_of hnd h1 h2
   exact ⟨i, h4, h5, h3⟩
 obtain ⟨x, X, c, hxe, hfd, hOx⟩ : ∃ (x : List Int) (X : Option Addr) (c : Nat), s.getD [] = x ∧ (fndV m l ts ns hd rt s A' c')[0]? = some (.slice X x.length c) ∧ OwnS X c x.length (x.map I) 3 1 Lf := by
  cases s with
  | none => obtain rfl : Lf = [] := hOF; exact ⟨[], none, 0, rfl, rfl, OwnS.nil⟩
  | some x => exact ⟨x, A', c', rfl, rfl, hOF⟩
 refine WP.exit <| XB.hit <| Y.qr <| Y.a rfl <| Y.fa rfl rfl <| Y.v (Y.c (H.ldL 0 rfl 0 hfd) rfl) <| Y.v (Ev.build (bld_49_0_1 rfl rfl)) <| Y.ss 1 H rfl (cA rfl) rfl ?_
 clear H; intro w H
 refine Y.b rfl <| Y.z ?_
 refine WP.ret ⟨[_, _], ⟨(by exact resCellA 1 H rfl (agg_run rfl) (size_run rfl) (by rfl) rfl), rfl, trivial⟩, ?_⟩
 exact ⟨_, _, x, X, c, Lf, rfl, by rw [← hxe]; exact .ok h0 s hbest', hOx, H.drop ((((List.Sublist.refl _).cons _).cons _).cons _)⟩
end Go.Proofs.YtgcokllbophkkaaGreat
namespace Go.Proofs.YtgcokllbophkkaaGreat
open Go Go.W Go.RowKit
noncomputable def rowT (m : Nat) (l : List Edg) (nodes : List Nat) (s : Nat) : List Int := nodes.map fun v => roadT m l s v
def slVr (n : Nat) (d : Option Addr × Nat) : Value := .slice d.1 n d.2
def TabAt (w : World) (T : Option Addr) (m : Nat) (l : List Edg) (nodes : List Nat) : Prop :=
 ∃ ds : List (Option Addr × Nat), ds.length = nodes.length ∧ OnesAt (slVr nodes.length) w T ds ∧ ∀ i (h : i < ds.length) (h2 : i < nodes.length), IntsAt w ds[i].1 (rowT m l nodes nodes[i])
theorem r8Table (m : Nat) (A R : Option Addr) (l : List Edg) (nodes : List Nat) (cap cr : Nat) (w0 : World) (hz : EdgsAt w0 A l) (hok : RoadOk m l) (hr : IntsAt w0 R (nodes.map fun v : Nat => (v : Int))) (hn : ∀ v ∈ nodes, v < m) (hl : nodes.length ≤ 17) :
  Calls Tryz.prog 89 #[.agg #[I m, .slice A l.length cap], .slice R nodes.length cr] w0 fun e w' => ∃ (T : Option Addr) (c : Nat) (L : List Blk), e = .returned (.tuple #[.slice T nodes.length c, I 0]) ∧ Reads L (fun w => TabAt w T m l nodes) ∧ SH w0 [] w' L := by
 have H := SH.refl w0
 have hre := roadErr_ok hok
 have hcell : ∀ j (h : j < nodes.length), ∃ b o, R = some ⟨b, o, none⟩ ∧ w0.cell? ⟨b, o + j, none⟩ = some (I ((nodes[j] : Nat) : Int)) := fun j h => by
  obtain ⟨b, o, e, hc⟩ := hr j (by simpa using h)
  exact ⟨b, o, e, by simpa using hc⟩
 refine Calls.ofWP Tryz.func89 rfl Tryz.results89 Tryz.ntmps89 rfl <| Y.qr <| Y.bx (cA rfl) H ?_
 clear H; intro g2 w H
 refine Y.v (Ev.asS rfl) <| Y.b rfl <| Y.z <| Y.q <| Y.qr <| Y.v (Y.o H 0 rfl rfl) <| OPS.call (d := some 15) rfl rfl rfl (EvC.func (fun_run rfl)) (r8Check m A l cap w (hz.sh H)) ?_
 rintro _ w ⟨rfl, hb⟩
 refine ⟨_, rfl, ?_⟩
 replace H := H.toBelow hb; clear hb
 refine Y.b rfl <| Y.z <| Y.qr <| Y.a rfl <| Y.v (Ev.neq rfl rfl) <| Y.z ?_
 refine WP.cond rfl (fun hc2 => ?_) (fun hc2 => ?_)
 ·refine Y.qr <| Y.a rfl <| Y.v (Ev.asS rfl) <| Y.b rfl <| Y.z ?_
  refine WP.ret ⟨_, rfl, ?_⟩
  exact absurd hc2 (by rw [hre]; decide)
 refine Y.k <| Y.q <| Y.qr <| Y.v (Ev.mvS rfl) <| Y.v (Y.n rfl) <| Y.v (Ev.gtr rfl rfl) <| Y.z ?_
 refine WP.cond rfl (fun hc4 => ?_) (fun hc4 => ?_)
 ·refine Y.qr <| Y.v (Ev.asS rfl) <| Y.b rfl <| Y.z ?_
  refine WP.ret ⟨_, rfl, ?_⟩
  exfalso
  simp at hc4; omega
 refine Y.k <| Y.q <| Y.qr <| Y.b rfl <| Y.z <| WP.block <| WP.loop [4, 5, 7, 22, 23, 24, 25, 26, 27, 28, 29, 30, 31, 32, 33, 34] (fun k e w' => ∃ (j : Nat), j + k = nodes.length ∧ e 7 = I j ∧ SH w0 [] w' [⟨g2, 24, [I m, .slice A l.length cap]⟩]) (nodes.length) (⟨0, by omega, rfl, H⟩) ?_
 clear H
 rintro k u w ⟨j, hk, h7, H⟩
 refine WP.know (t := 7) h7 <| Y.q <| Y.qr <| Y.a rfl <| Y.v (Ev.mvS rfl) <| Y.v (Y.n rfl) <| Y.v (Ev.lss rfl rfl) <| Y.z ?_
 refine WP.cond rfl (fun hc7 => ?_) (fun hc7 => ?_)
 ·have hlt : j < nodes.length := by simpa using hc7
  obtain ⟨br, orr, rfl, hx⟩ := hcell j hlt
  have hnj := hn nodes[j] (List.getElem_mem hlt)
  generalize nodes[j] = v at hx hnj
  refine Y.k <| Y.q <| WP.block <| Y.q <| WP.rquiet mixed (by kernel_rfl) H ?_
  clear H; intro w hbw9 H
  refine Y.v (Y.o H 0 rfl rfl) <| Y.v (Ev.mvS rfl) <| Y.a rfl <| Y.v (Y.x rfl rfl rfl rfl) <| Y.v (Y.c (H.ld0 (by assumption)) rfl) ?_
  refine OPS.callq rfl rfl rfl (EvC.func (fun_run rfl)) (fun w2 hb2 => r8Node m v A l.length cap w2) ?_
  refine Y.v (Ev.not rfl) <| OPS.nilq H ?_
  clear H; intro w hbx9 H
  refine WP.cond rfl (fun hc9 => ?_) (fun hc9 => ?_)
  ·refine Y.qr <| Y.v (Ev.asS rfl) <| Y.b rfl <| Y.z ?_
   refine WP.ret ⟨_, rfl, ?_⟩
   exfalso
   have : isNode m v = true := by unfold isNode; simp; omega
   rw [this] at hc9; cases hc9
  refine Y.k <| Y.r <| Y.a rfl <| Y.v (Y.p rfl rfl) <| Y.b rfl <| Y.z ?_
  exact ⟨Y.ag, k - 1, by omega, j + 1, by omega, rfl, H⟩
 refine WP.exit <| XB.hit <| Y.qr <| Y.v (Ev.asS rfl) <| Y.z <| Y.q <| Y.qr <| Y.b rfl <| Y.z <| WP.block <| WP.loop [8, 9, 10, 11, 12, 13, 35, 36, 37, 38, 39, 40, 41, 42, 43, 44, 45, 46, 47, 48, 49, 50, 51, 52, 53, 54, 55, 56, 57, 58, 59, 60, 61, 62, 63, 64, 65, 66, 67, 68, 69] (fun k e w' => ∃ (j : Nat) (T : Option Addr) (c : Nat) (ds : List (Option Addr × Nat)) (Lo Lr : List Blk), j + k = nodes.length ∧ e 9 = I j ∧ e 8 = .slice T j c ∧ ds.length = j ∧ OwnS T c j (ds.map (slVr nodes.length)) 32 1 Lo ∧ Reads Lr (fun w => ∀ i (h : i < ds.length) (h2 : i < nodes.length), IntsAt w ds[i].1 (rowT m l nodes nodes[i])) ∧ SH w0 [] w' ((⟨g2, 24, [I m, .slice A l.length cap]⟩ :: Lr) ++ Lo)) (nodes.length) (⟨0, none, 0, [], [], [], by omega, rfl, rfl, rfl, OwnS.nil, (fun _ _ _ _ i h => absurd h (by simp)), H⟩) ?_
 clear H
 rintro k u w ⟨j, T, c, ds, Lo, Lr, hk, h9, h8, hdl, hOT, hRd, H⟩
 refine WP.know (t := 9) h9 (WP.know (t := 8) h8 ?_)
 refine Y.q <| Y.qr <| Y.a rfl <| Y.v (Ev.mvS rfl) <| Y.v (Y.n rfl) <| Y.v (Ev.lss rfl rfl) <| Y.z ?_
 refine WP.cond rfl (fun hc13 => ?_) (fun hc13 => ?_)
 ·have hlt : j < nodes.length := by simpa using hc13
  have hcj := hcell j hlt
  obtain ⟨br, orr, hRe, hx⟩ := hcj
  have hnj := hn nodes[j] (List.getElem_mem hlt)
  obtain ⟨hte, htl⟩ := timesOf_ok hok hnj
  have htn := timesL_length m l nodes[j]
  have htc := r8Times m nodes[j] A l cap
  rw [htl, hte] at htc
  subst hRe
  refine Y.k <| Y.q <| WP.block <| Y.q ?_
  refine WP.rheldC [10, 11, 41, 42, 43, 44, 45, 46, 47, 48, 49] (fun u w' => ∃ (TA : Option Addr) (Lc : List Blk), u 10 = .slice TA (timesL m l nodes[j]).length (timesL m l nodes[j]).length ∧ OwnL 3 I TA (timesL m l nodes[j]) Lc ∧ SH w0 [] w' (((⟨g2, 24, [I m, .slice A l.length cap]⟩ :: Lr) ++ Lo) ++ Lc)) mixed H ?_ ?_
  ·clear H; intro w hbw15 H
   refine Y.t 0 H rfl rfl (fun w H => Y.o H 0 rfl rfl) <| Y.t 1 H rfl rfl (fun w H => Ev.mvS rfl) <| Y.t 2 H rfl rfl (fun w H => Y.m rfl) <| Y.t 3 H rfl rfl (fun w H => Y.x rfl rfl rfl rfl) <| Y.t 4 H rfl rfl (fun w H => Y.c (H.ld0 (by assumption)) rfl) ?_
   refine Y.A1 5 rfl rfl <| OPS.call (d := some 47) rfl rfl rfl (EvC.func (fun_run rfl)) (htc _ (hz.sh H)) ?_
   rintro _ w ⟨TA, Lc, rfl, hOL, Hc⟩
   refine ⟨_, rfl, ?_⟩
   have Hf := SH.call (L1 := (⟨g2, 24, [I m, .slice A l.length cap]⟩ :: Lr) ++ Lo) (Lv := []) (by rw [List.append_nil]; exact H) Hc
   clear H Hc
   have H := Hf.drop (List.sublist_append_left _ _)
   refine Y.z <| ⟨(H), ?_⟩
   refine Y.t 6 H rfl rfl (fun w H => Ev.mvT rfl) <| Y.t 7 H rfl rfl (fun w H => Ev.extract rfl rfl) <| Y.t 8 H rfl rfl (fun w H => Ev.extract rfl rfl) <| Y.t 9 H rfl rfl (fun w H => Ev.asS rfl) <| Y.t 10 H rfl rfl (fun w H => Ev.asI rfl) <| Y.dn ?_
   exact ⟨Y.ag, TA, Lc, rfl, hOL, Hf⟩
  clear H
  rintro u w ⟨TA, Lc, h10, hOL, H⟩
  refine WP.know (t := 10) h10 <| Y.qr <| Y.v (Ev.asS rfl) <| Y.z <| Y.q <| Y.qr <| Y.b rfl <| Y.z <| WP.block <| WP.loop [12, 13, 50, 51, 52, 53, 54, 55, 56, 57, 58, 59, 60, 61, 62, 63, 64, 65] (fun k e w' => ∃ (i : Nat) (X : Option Addr) (cx : Nat) (Lx : List Blk), i + k = nodes.length ∧ e 13 = I i ∧ e 12 = .slice X i cx ∧ OwnS X cx i (((rowT m l nodes nodes[j]).take i).map I) 3 1 Lx ∧ SH w0 [] w' ((((⟨g2, 24, [I m, .slice A l.length cap]⟩ :: Lr) ++ Lo) ++ Lc) ++ Lx)) (nodes.length) (⟨0, none, 0, [], by omega, rfl, rfl, OwnS.nil, by rw [List.append_nil]; exact H⟩) ?_
  clear H
  rintro k2 u2 w ⟨i, X, cx, Lx, hk2, h13, h12, hOX, H⟩
  refine WP.know (t := 13) h13 (WP.know (t := 12) h12 ?_)
  refine Y.q <| Y.qr <| Y.a rfl <| Y.v (Ev.mvS rfl) <| Y.v (Y.n rfl) <| Y.v (Ev.lss rfl rfl) <| Y.z ?_
  refine WP.cond rfl (fun hc18 => ?_) (fun hc18 => ?_)
  ·have hil : i < nodes.length := by simpa using hc18
   obtain ⟨_, _, e1, hy⟩ := hcell i hil
   cases e1
   have hni := hn nodes[i] (List.getElem_mem hil)
   have hvl : nodes[i] < (timesL m l nodes[j]).length := by rw [htn]; exact hni
   obtain ⟨bt, ot, hTe, htx⟩ := hOL.rd H (fun b hb => List.mem_append_left _ (List.mem_append_right _ hb)) nodes[i] hvl
   rw [timesL_at hvl] at htx
   subst hTe
   have hrl : i < (rowT m l nodes nodes[j]).length := by unfold rowT; simpa using hil
   have htk : ((rowT m l nodes nodes[j]).take (i + 1)).map I = ((rowT m l nodes nodes[j]).take i).map I ++ [I (roadT m l nodes[j] nodes[i])] := by
    rw [List.take_succ_eq_append_getElem hrl, List.map_append]
    simp [rowT]
   refine Y.k <| Y.q <| WP.block <| Y.r <| Y.v (Ev.mvS rfl) <| Y.v (Ev.mvS rfl) <| Y.v (Ev.mvS rfl) <| Y.a rfl <| Y.v (Y.x rfl rfl rfl rfl) <| Y.v (Y.c (H.ld0 (by assumption)) rfl) ?_
   refine Y.v (Y.x rfl rfl rfl rfl) <| Y.v (Y.c (by assumption) rfl) ?_
   refine OPS.buildSlice rfl rfl rfl rfl (bsl_32_1_0 rfl) H ?_
   clear H; intro g64 w H
   refine OPS.append (m := 1) (news := [I (roadT m l nodes[j] nodes[i])]) (R := ⟨g64, 3, [I (roadT m l nodes[j] nodes[i])]⟩ :: (((⟨g2, 24, [I m, .slice A l.length cap]⟩ :: Lr) ++ Lo) ++ Lc)) rfl rfl rfl rfl rfl (sl_run rfl) rfl rfl hOX rfl (src_own H 0 rfl) rfl (by omega) (by unfold maxLen; omega) H (List.Perm.refl _) ?_
   clear H hOX; intro X cx Lx w hOX H
   replace H := H.drop (List.sublist_cons_self _ _)
   refine Y.v (Ev.asS rfl) <| Y.z <| Y.r <| Y.a rfl <| Y.v (Y.p rfl rfl) <| Y.b rfl <| Y.z ?_
   exact ⟨Y.ag, k2 - 1, by omega, i + 1, X, cx, Lx, by omega, rfl, rfl, by rw [htk]; exact hOX, H⟩
  have hi : i = nodes.length := by simp at hc18; omega
  subst hi
  rw [List.take_of_length_le (by unfold rowT; simp)] at hOX
  replace H := H.drop (L' := ((⟨g2, 24, [I m, .slice A l.length cap]⟩ :: Lr) ++ Lo) ++ Lx) (List.Sublist.append (List.sublist_append_left _ _) (List.Sublist.refl _))
  have hRx : Reads Lx (fun w => IntsAt w X (rowT m l nodes nodes[j])) := fun w0 S w H => (hOX.ones (R := []) H).1
  refine WP.exit <| XB.hit <| Y.r <| Y.v (Ev.mvS rfl) <| Y.v (Ev.mvS rfl) <| OPS.buildSlice rfl rfl rfl rfl (bsl_100_1_0 rfl) H ?_
  clear H; intro g68 w H
  refine OPS.append (m := 1) (news := [.slice X nodes.length cx]) (R := ⟨g68, 32, [.slice X nodes.length cx]⟩ :: ((⟨g2, 24, [I m, .slice A l.length cap]⟩ :: Lr) ++ Lx)) rfl rfl rfl rfl rfl (sl_run rfl) rfl rfl hOT rfl (src_own H 0 rfl) rfl (by omega) (by unfold maxLen; omega) H (by exact permBy fun f => by simp <;> omega) ?_
  clear H hOT; intro T c Lo w hOT H
  replace H := H.drop (List.sublist_cons_self _ _)
  refine Y.v (Ev.asS rfl) <| Y.z <| Y.r <| Y.a rfl <| Y.v (Y.p rfl rfl) <| Y.b rfl <| Y.z ?_
  exact ⟨Y.ag, k - 1, by omega, j + 1, T, c, ds ++ [(X, cx)], Lo, Lr ++ Lx, by omega, rfl, rfl, by simp [hdl], by rw [List.map_append]; exact hOT, (fun w0 S w H i h h2 => by
   by_cases hij : i < ds.length
   ·rw [List.getElem_append_left hij]
    exact (hRd.at H (List.sublist_append_left _ _)) i hij h2
   ·have hij2 : i = j := by simp at h; omega
    subst hij2
    rw [List.getElem_append_right (by omega)]
    simp only [hdl, Nat.sub_self, List.getElem_cons_zero]
    exact hRx.at H (List.sublist_append_right _ _)), by simpa using H⟩
 refine WP.exit <| XB.hit <| Y.qr <| Y.v (Ev.mvS rfl) <| Y.v (Ev.asS rfl) <| Y.b rfl <| Y.z ?_
 refine WP.ret ⟨_, rfl, ?_⟩
 have hj : j = nodes.length := by simp at hc13; omega
 subst hj
 exact ⟨T, c, Lr ++ Lo, rfl, (fun w0 S w H => ⟨ds, hdl, (hOT.ones H).1, hRd.at H (List.sublist_append_left _ _)⟩), H.drop (List.sublist_cons_self _ _)⟩
end Go.Proofs.YtgcokllbophkkaaGreat
namespace Go.Proofs.YtgcokllbophkkaaGreat
open Go Go.W Go.RowKit
theorem ret_b {v : Value} {b c : Bool} (h : v = .bool b) (hb : b = c) : Ending.returned v = .returned (.bool c) := by rw [h, hb]
theorem lexB_drop {a b : List Int} : ∀ {j : Nat}, j ≤ a.length → j ≤ b.length → (∀ i (h : i < a.length) (h2 : i < b.length), i < j → a[i] = b[i]) → lexB a b = lexB (a.drop j) (b.drop j)
 | 0, _, _, _ => by simp
 | j + 1, h1, h2, h => by
  rw [lexB_drop (j := j) (by omega) (by omega) (fun i q1 q2 q3 => h i q1 q2 (by omega)), List.drop_eq_getElem_cons (show j < a.length by omega), List.drop_eq_getElem_cons (show j < b.length by omega), h j (by omega) (by omega) (by omega), lexB_head]
theorem rBefore0 (A B : Option Addr) (a b : List Int) (c1 c2 : Nat) (w0 : World) (ha : IntsAt w0 A a) (hb : IntsAt w0 B b) (hl : a.length ≤ 1000) (hl2 : b.length ≤ 1000) :
  Calls Tryz.prog 88 #[.slice A a.length c1, .slice B b.length c2] w0 fun e w' => e = .returned (.bool (lexB a b)) ∧ Below w0.heap.size w0 w' := by
 have H := SH.refl w0
 refine Calls.ofWP Tryz.func88 rfl Tryz.results88 Tryz.ntmps88 rfl <| Y.qr <| Y.v (Ev.asB rfl) <| Y.z <| Y.q <| Y.qr <| Y.b rfl <| Y.z <| WP.block <| WP.loop [4, 5, 6, 7, 8, 9, 10, 11, 12, 13, 14, 15, 16, 17, 18, 19, 20, 21, 22, 23, 24, 25, 26, 27, 28, 29, 30, 31, 32, 33, 34, 35] (fun k e w' => ∃ (j : Nat), j + k = a.length ∧ e 5 = I j ∧ j ≤ b.length ∧ (∀ i (h : i < a.length) (h2 : i < b.length), i < j → a[i] = b[i]) ∧ SH w0 [] w' []) (a.length) (⟨0, by omega, rfl, by omega, fun _ _ _ _ => by omega, H⟩) ?_
 clear H
 rintro k u w ⟨j, hk, h5, hjb, hall, H⟩
 refine WP.know (t := 5) h5 <| Y.q <| Y.qr <| Y.a rfl <| Y.v (Ev.mvS rfl) <| Y.v (Y.n rfl) <| Y.v (Ev.lss rfl rfl) <| Y.v (Ev.mvB rfl) <| Y.g rfl rfl (fun hg => Y.m rfl) <| Y.g rfl rfl (fun hg => Ev.mvS rfl) <| Y.g rfl rfl (fun hg => Ev.len (el_run rfl) (gvE hg rfl)) <| Y.g rfl rfl (fun hg => Ev.lss (gvE hg rfl) (gvE hg rfl)) <| Y.v (Ev.pickAnd rfl rfl rfl) <| Y.z ?_
 refine WP.cond rfl (fun hc2 => ?_) (fun hc2 => ?_)
 ·have hlt : j < a.length ∧ j < b.length := by simpa using hc2
  obtain ⟨hlt, hlt2⟩ := hlt
  obtain ⟨b1, o1, rfl, hx⟩ := ha j hlt
  obtain ⟨b2, o2, rfl, hy⟩ := hb j hlt2
  have hd : lexB a b = (if a[j] < b[j] then true else if b[j] < a[j] then false else lexB (a.drop (j + 1)) (b.drop (j + 1))) := by rw [lexB_drop (j := j) (by omega) (by omega) hall, List.drop_eq_getElem_cons hlt, List.drop_eq_getElem_cons hlt2, lexB]
  refine Y.k <| Y.q <| WP.block <| Y.q <| WP.rstill mixed (by kernel_rfl) H ?_
  clear H; intro w hbw4 H
  refine Y.v (Ev.mvS rfl) <| Y.a rfl <| Y.v (Y.x rfl rfl rfl rfl) <| Y.v (Y.c (H.ld0 (by assumption)) rfl) ?_
  refine Y.v (Ev.mvS rfl) <| Y.a rfl <| Y.v (Y.x rfl rfl rfl rfl) <| Y.v (Y.c (H.ld0 (by assumption)) rfl) ?_
  refine Y.v (Ev.neq rfl rfl) <| OPS.nil_s ?_
  refine WP.cond rfl (fun hc4 => ?_) (fun hc4 => ?_)
  ·refine Y.q <| WP.rstill mixed (by kernel_rfl) H ?_
   clear H; intro w hbw5 H
   refine Y.v (Ev.mvS rfl) <| Y.a rfl <| Y.v (Y.x rfl rfl rfl rfl) <| Y.v (Y.c (H.ld0 (by assumption)) rfl) ?_
   refine Y.v (Ev.mvS rfl) <| Y.a rfl <| Y.v (Y.x rfl rfl rfl rfl) <| Y.v (Y.c (H.ld0 (by assumption)) rfl) ?_
   refine Y.v (Ev.lss rfl rfl) <| Y.v (Ev.asB rfl) <| OPS.nil_s ?_
   refine WP.ret ⟨_, rfl, ?_⟩
   have hne : a[j] ≠ b[j] := by simpa using hc4
   have hv : lexB a b = decide (a[j] < b[j]) := by
    rw [hd]
    by_cases h : a[j] < b[j]
    ·rw [if_pos h, decide_eq_true h]
    ·rw [if_neg h, if_pos (by omega), decide_eq_false h]
   exact ⟨by rw [hv]; rfl, H.below⟩
  have heq : a[j] = b[j] := by simpa using hc4
  refine Y.k <| Y.r <| Y.a rfl <| Y.v (Y.p rfl rfl) <| Y.b rfl <| Y.z ?_
  exact ⟨Y.ag, k - 1, by omega, j + 1, by omega, rfl, by omega, (fun i h1 h2 h3 => by
   rcases Nat.lt_or_eq_of_le (Nat.le_of_lt_succ h3) with h | rfl
   ·exact hall i h1 h2 h
   ·exact heq), H⟩
 refine WP.exit <| XB.hit <| Y.qr <| Y.v (Ev.mvS rfl) <| Y.v (Y.n rfl) <| Y.v (Ev.mvS rfl) <| Y.v (Y.n rfl) <| Y.v (Ev.lss rfl rfl) <| Y.v (Ev.asB rfl) <| Y.z ?_
 refine WP.ret ⟨_, rfl, ?_⟩
 have hge : ¬ (j < a.length ∧ j < b.length) := by simpa using hc2
 have hv : lexB a b = decide (a.length < b.length) := by
  rw [lexB_drop (j := j) (by omega) (by omega) hall]
  by_cases h : j = a.length
  ·subst h
   rw [List.drop_length]
   by_cases h2 : a.length < b.length
   ·rw [List.drop_eq_getElem_cons h2, decide_eq_true h2]; rfl
   ·rw [List.drop_eq_nil_of_le (show b.length ≤ a.length by omega), decide_eq_false h2]; rfl
  ·rw [List.drop_eq_getElem_cons (show j < a.length by omega), List.drop_eq_nil_of_le (show b.length ≤ j by omega), decide_eq_false (by omega)]; rfl
 have e1 : decide ((a.length : Int) < b.length) = decide (a.length < b.length) := decide_eq_decide.2 (by omega)
 exact ⟨by rw [hv, ← e1]; rfl, H.below⟩
end Go.Proofs.YtgcokllbophkkaaGreat
namespace Go.Proofs.YtgcokllbophkkaaGreat
open Go Go.W Go.RowKit
section
variable {n : Int} {l : List Edg} {ts : List Truck} {ns : List Need} {hd rt : Int} {rn : List Int}
structure AskOk (m : Nat) (l : List Edg) (ts : List Truck) (ns : List Need) (hd rt : Int) (rn : List Int) : Prop where
 night : nightErr m l ts ns hd = 0
 ok : NightOk m l ts ns hd
 tr : 0 ≤ rt ∧ rt < ts.length
 inr : ∀ i ∈ rn, 0 ≤ i ∧ i < ns.length
 nd : rn.Nodup
 len : rn.length ≤ 6
 pos : ∀ i ∈ rn, 0 < absI (needAt ns i).move
theorem askOk_of (h : askErr n l ts ns hd rt rn = 0) : ∃ m : Nat, n = m ∧ AskOk m l ts ns hd rt rn := by
 obtain ⟨h1, h2, h3⟩ := ask_ok h
 obtain ⟨m, rfl, hN⟩ := nightOk_of h1
 obtain ⟨h4, h5, h6, _⟩ := routeOk_of h2
 refine ⟨m, rfl, h1, hN, h4, h5, h6, h3, fun i hi => ?_⟩
 obtain ⟨h7, h8⟩ := h5 i hi
 obtain ⟨q, rfl⟩ := Int.eq_ofNat_of_zero_le h7
 have hq : q < ns.length := by omega
 rw [needAt_eq hq]
 have := (hN.nd ns[q] (List.getElem_mem hq)).2.1
 unfold absI; split <;> omega
theorem AskOk.nil {m : Nat} (h : AskOk m l ts ns hd rt rn) : walkE m l ts ns hd rt [] = 0 := by
 obtain ⟨q, rfl⟩ := Int.eq_ofNat_of_zero_le h.tr.1
 have hq : q < ts.length := by have := h.tr.2; omega
 have htr := h.ok.tr ts[q] (List.getElem_mem hq)
 have hgt : ts.getD (q : Int).toNat default = ts[q] := by simp [hq]
 have hr : routeErr ts ns q [] = 0 := by
  unfold routeErr
  rw [if_neg (by simp [outB, inB]; omega), if_neg (by simp [twiceB])]
 obtain ⟨d, hd'⟩ := Int.eq_ofNat_of_zero_le htr.1.1
 have hdm : d < m := by omega
 have h0 : roadT m l d d = 0 := by
  obtain ⟨K, D, hR⟩ := rd_exists h.ok.road hdm
  rw [roadT_eq h.ok.road hR hdm, if_pos hR.src.1, hR.src.2]
 rw [walkE, if_neg (by rw [h.night]; decide), if_neg (by rw [hr]; decide), hgt]
 unfold endT
 rw [hgt]
 simp only [goE, goT, ne_eq, not_true_eq_false, if_false, startT, homeE, roadD, hd', Int.toNat_natCast, h0]
 rw [if_neg (by omega), if_neg (by omega)]
end
end Go.Proofs.YtgcokllbophkkaaGreat
namespace Go.Proofs.YtgcokllbophkkaaGreat
open Go Go.W Go.RowKit
def srL (n : Int) (A B C : Option Addr) (ll tl nl ca cb cc : Nat) (hd : Int) (t : Truck) (R : Option Addr) (rl cr : Nat) (T : Option Addr) (tn tc : Nat) (al : Bool) (O : Option Addr) (ol oc : Nat) (fd : Bool) (X : Option Addr) (xl xc : Nat) (mv sc : Int) : List Value :=
 [I n, .slice A ll ca, .slice B tl cb, .slice C nl cc, I hd, I t.depot, I t.cap, I t.from_, I t.to_, .slice R rl cr, .slice T tn tc, .bool al, .slice O ol oc, .bool fd, .slice X xl xc, I mv, I sc]
def nodesOf (ns : List Need) (t : Truck) (rn : List Int) : List Nat := t.depot.toNat :: rn.map fun i => (needAt ns i).node.toNat
theorem nodesOf_len (ns : List Need) (t : Truck) (rn : List Int) : (nodesOf ns t rn).length = rn.length + 1 := by simp [nodesOf]
theorem rBegin (m : Nat) (hd : Int) (q : Nat) (A B C R : Option Addr) (l : List Edg) (ts : List Truck) (ns : List Need) (rn : List Int) (ca cb cc cr : Nat) (al : Bool) (w0 : World) (hz : EdgsAt w0 A l) (ht : RowsAt 4 truckCells w0 B ts) (hn : RowsAt 2 needCells w0 C ns) (hr : IntsAt w0 R rn) (hq : q < ts.length) (hk : AskOk m l ts ns hd q rn) :
  Calls Tryz.prog 59 #[.agg #[I m, .slice A l.length ca, .slice B ts.length cb, .slice C ns.length cc, I hd], I q, .slice R rn.length cr, .bool al] w0 fun e w' => ∃ (T : Option Addr) (c : Nat) (L : List Blk),
   e = .returned (.agg (srL m A B C l.length ts.length ns.length ca cb cc hd ts[q] R rn.length cr T (rn.length + 1) c al none 0 0 false none 0 0 0 0).toArray) ∧ Reads L (fun w => TabAt w T m l (nodesOf ns ts[q] rn)) ∧ SH w0 [] w' L := by
 have H := SH.refl w0
 have hl6 := hk.len
 obtain ⟨bt, ot, rfl, htc⟩ := ht q hq
 have htr := hk.ok.tr ts[q] (List.getElem_mem hq)
 generalize htt : ts[q] = t at *
 obtain ⟨dp, hdp⟩ := Int.eq_ofNat_of_zero_le htr.1.1
 have hnode : ∀ i ∈ rn, 0 ≤ (needAt ns i).node ∧ (needAt ns i).node < m := fun i hi => by
  obtain ⟨h7, h8⟩ := hk.inr i hi
  obtain ⟨p, rfl⟩ := Int.eq_ofNat_of_zero_le h7
  have hp : p < ns.length := by omega
  rw [needAt_eq hp]
  exact (hk.ok.nd ns[p] (List.getElem_mem hp)).1
 have hnm : ∀ v ∈ nodesOf ns t rn, v < m := fun v hv => by
  unfold nodesOf at hv
  rcases List.mem_cons.1 hv with rfl | hv
  ·omega
  ·obtain ⟨i, hi, rfl⟩ := List.mem_map.1 hv
   have := hnode i hi; omega
 refine Calls.ofWPc Tryz.func59 rfl Tryz.results59 Tryz.ntmps59 rfl <| Y.qr <| Y.bx (cA rfl) H ?_
 clear H; intro g4 w H
 refine Y.al H rfl rfl ?_
 clear H; intro g8 w H
 refine Y.z <| Y.qr <| Y.fa rfl rfl <| Y.j H 1 rfl rfl rfl <| Y.a rfl <| Y.v (Y.X rfl rfl rfl rfl rfl) ?_
 have htc' := cellsAt_sh H htc
 refine Y.v (by (change Ev _ _ _ _ (Op.load 81 (Operand.tmp 17)) _; exact Ev.loadN (truckCells t) (agg_run rfl) (size_run rfl) rfl htc')) <| Y.al H rfl rfl ?_
 clear H; intro g9 w H
 refine Y.ss 0 H rfl (cA rfl) rfl ?_
 clear H; intro w H
 refine Y.z <| Y.qr <| Y.fa rfl rfl <| Y.j H 0 rfl rfl rfl <| OPS.buildSlice rfl rfl rfl rfl (bsl_32_1_0 rfl) H ?_
 clear H; intro g21 w H
 refine Y.v (Ev.asS rfl) <| Y.z <| Y.q <| Y.qr <| Y.b rfl <| Y.z ?_
 have hO0 : OwnS (some ⟨g21, 0, none⟩) 1 1 ([I t.depot]) 3 1 [⟨g21, 3, [I t.depot]⟩] := ⟨rfl, .inr ⟨g21, [], rfl, rfl, Nat.le_refl _, by unfold maxLen; omega, rfl⟩⟩
 have hTb := fun w V cv hz hr => r8Table m A V l (nodesOf ns t rn) ca cv w hz hk.ok.road hr hnm (by rw [nodesOf_len]; omega)
 rw [nodesOf_len] at hTb
 replace H := H.perm (List.perm_append_singleton _ _).symm
 refine WP.block <| WP.loop [10, 11, 22, 23, 24, 25, 26, 27, 28, 29, 30, 31, 32, 33, 34, 35, 36, 37, 38, 39] (fun k e w' => ∃ (j : Nat) (V : Option Addr) (cv : Nat) (Lv : List Blk), j + k = rn.length ∧ e 11 = I j ∧ e 10 = .slice V (j + 1) cv ∧ OwnS V cv (j + 1) ((((nodesOf ns t rn).map fun v : Nat => (v : Int)).take (j + 1)).map I) 3 1 Lv ∧ SH w0 [] w' ([⟨g9, 81, truckCells t⟩, ⟨g8, 102, srL 0 none none none 0 0 0 0 0 0 0 ⟨0, 0, 0, 0⟩ none 0 0 none 0 0 false none 0 0 false none 0 0 0 0⟩, ⟨g4, 28, [I m, .slice A l.length ca, .slice (some ⟨bt, ot, none⟩) ts.length cb, .slice C ns.length cc, I hd]⟩] ++ Lv)) (rn.length) (⟨0, some ⟨g21, 0, none⟩, 1, [⟨g21, 3, [I t.depot]⟩], by omega, rfl, rfl, by simpa [nodesOf, hdp] using hO0, H⟩) ?_
 clear H
 rintro k u w ⟨j, V, cv, Lv, hk4, h11, h10, hOV, H⟩
 refine WP.know (t := 11) h11 (WP.know (t := 10) h10 ?_)
 refine Y.q <| Y.qr <| Y.a rfl <| Y.v (Ev.mvS rfl) <| Y.v (Y.n rfl) <| Y.v (Ev.lss rfl rfl) <| Y.z ?_
 refine WP.cond rfl (fun hc4 => ?_) (fun hc4 => ?_)
 ·have hlt : j < rn.length := by simpa using hc4
  obtain ⟨br, orr, rfl, hx⟩ := hr j hlt
  have hir := hk.inr rn[j] (List.getElem_mem hlt)
  obtain ⟨i, hi⟩ := Int.eq_ofNat_of_zero_le hir.1
  have hnd := hnode rn[j] (List.getElem_mem hlt)
  have htk : (((nodesOf ns t rn).map fun v : Nat => (v : Int)).take (j + 2)).map I = (((nodesOf ns t rn).map fun v : Nat => (v : Int)).take (j + 1)).map I ++ [I (needAt ns rn[j]).node] := by
   have h1 : j + 1 < ((nodesOf ns t rn).map fun v : Nat => (v : Int)).length := by rw [List.length_map, nodesOf_len]; omega
   rw [List.take_succ_eq_append_getElem h1, List.map_append]
   congr 1
   simp only [List.map_cons, List.map_nil, List.getElem_map, nodesOf, List.getElem_cons_succ]
   congr 2
   omega
  rw [hi] at hx htk hnd
  have hil : i < ns.length := by omega
  obtain ⟨bn, on, rfl, hy⟩ := hn i hil
  rw [needAt_eq hil] at htk hnd
  generalize ns[i] = z at hy htk hnd
  obtain ⟨q1, q2, _⟩ := hy
  have Hf := H
  replace H := H.drop (L' := [_, _, _]) (List.sublist_append_left _ _)
  refine Y.k <| Y.q <| WP.block ?_
  refine WP.rheldC [10, 28, 29, 30, 31, 32, 33, 34, 35, 36, 37, 38, 39] (fun u w' => ∃ (V : Option Addr) (cv : Nat) (Lv : List Blk), u 10 = .slice V (j + 2) cv ∧ OwnS V cv (j + 2) ((((nodesOf ns t rn).map fun v : Nat => (v : Int)).take (j + 1)).map I ++ [I z.node]) 3 1 Lv ∧ SH w0 [] w' ([⟨g9, 81, truckCells t⟩, ⟨g8, 102, srL 0 none none none 0 0 0 0 0 0 0 ⟨0, 0, 0, 0⟩ none 0 0 none 0 0 false none 0 0 false none 0 0 0 0⟩, ⟨g4, 28, [I m, .slice A l.length ca, .slice (some ⟨bt, ot, none⟩) ts.length cb, .slice (some ⟨bn, on, none⟩) ns.length cc, I hd]⟩] ++ Lv)) mixed H ?_ ?_
  ·clear H; intro w hbw6 H
   refine Y.t 0 H rfl rfl (fun w H => Ev.mvS rfl) <| Y.t 1 H rfl rfl (fun w H => Y.f rfl rfl) <| Y.t 2 H rfl rfl (fun w H => Y.l H 2 rfl rfl rfl) <| Y.t 3 H rfl rfl (fun w H => Ev.mvS rfl) <| Y.t 4 H rfl rfl (fun w H => Y.m rfl) <| Y.t 5 H rfl rfl (fun w H => Y.x rfl rfl rfl rfl) <| Y.t 6 H rfl rfl (fun w H => Y.c (H.ld0 (by assumption)) rfl) ?_
   refine Y.t 7 H rfl rfl (fun w H => Y.X rfl rfl rfl rfl rfl) <| Y.t 8 H rfl rfl (fun w H => Y.f rfl rfl) <| Y.t 9 H rfl rfl (fun w H => Y.c (H.ld0 (by assumption)) rfl) ?_
   refine Y.A1 10 rfl rfl <| OPS.buildSlice rfl rfl rfl rfl (bsl_32_1_0 rfl) (Hf.toBelow hbw6) ?_
   clear H; intro g38 w E; clear Hf
   have H := (Y.d1 E).drop (L' := [_, _, _]) (List.sublist_append_left _ _)
   refine Y.z <| ⟨(H), ?_⟩
   refine Y.A1 11 rfl rfl <| OPS.append (m := 1) (news := [I z.node]) (R := ⟨g38, 3, [I z.node]⟩ :: [⟨g9, 81, truckCells t⟩, ⟨g8, 102, srL 0 none none none 0 0 0 0 0 0 0 ⟨0, 0, 0, 0⟩ none 0 0 none 0 0 false none 0 0 false none 0 0 0 0⟩, ⟨g4, 28, [I m, .slice A l.length ca, .slice (some ⟨bt, ot, none⟩) ts.length cb, .slice (some ⟨bn, on, none⟩) ns.length cc, I hd]⟩]) rfl rfl rfl rfl rfl (sl_run rfl) rfl rfl hOV rfl (src_own E 0 rfl) rfl (by omega) (by unfold maxLen; omega) E (List.Perm.refl _) ?_
   clear H hOV; intro V cv Lv w hOV Hf; clear E
   replace Hf := Hf.drop (List.sublist_cons_self _ _)
   have H := Hf.drop (L' := [_, _, _]) (List.sublist_append_left _ _)
   refine Y.z <| ⟨(H), ?_⟩
   refine Y.t 12 H rfl rfl (fun w H => Ev.asS rfl) <| Y.dn ?_
   exact ⟨Y.ag, V, cv, Lv, rfl, hOV, Hf⟩
  clear H
  rintro u w ⟨V, cv, Lv, h10, hOV, H⟩
  refine WP.know (t := 10) h10 <| Y.r <| Y.a rfl <| Y.v (Y.p rfl rfl) <| Y.b rfl <| Y.z ?_
  exact ⟨Y.ag, k - 1, by omega, j + 1, V, cv, Lv, by omega, rfl, rfl, by rw [htk]; exact hOV, H⟩
 have hj : j = rn.length := by simp at hc4; omega
 subst hj
 rw [List.take_of_length_le (by rw [List.length_map, nodesOf_len]; omega)] at hOV
 refine WP.exit <| XB.hit <| Y.qr <| Y.fa rfl rfl <| Y.v (Ev.loadN [_, _] (agg_run rfl) (size_run rfl) rfl ⟨H.ldL 2 rfl _ rfl, H.ldL 2 rfl _ rfl, trivial⟩) <| Y.v (Ev.mvS rfl) <| OPS.call (d := some 44) rfl rfl rfl (EvC.func (fun_run rfl)) (hTb w V cv (hz.sh H) (hOV.ones H).1) ?_
 rintro _ w ⟨T, c, L, rfl, hT, Hc⟩
 refine ⟨_, rfl, ?_⟩
 replace H := SH.call (L1 := _) (Lv := []) (by rw [List.append_nil]; exact H.drop (List.sublist_append_left _ Lv)) Hc
 clear Hc
 simp only [List.cons_append, List.nil_append] at H
 refine Y.v (Ev.mvT rfl) <| Y.v (Ev.extract rfl rfl) <| Y.v (Ev.extract rfl rfl) <| Y.v (Ev.asS rfl) <| Y.b rfl <| Y.z <| Y.qr <| Y.v (Y.o H 2 rfl rfl) <| Y.v (Y.o H 0 rfl rfl) <| Y.v (Ev.mvS rfl) <| Y.v (Ev.mvS rfl) <| Y.v (Ev.mvB rfl) <| Y.v (Ev.build (bld_102_0_1_2_3_4 rfl rfl rfl rfl rfl)) <| OPS.store 1 _ rfl rfl rfl (size_run rfl) rfl (cA rfl) rfl rfl H rfl (by simp [srL]) ?_
 clear H; intro w H
 simp only [List.set_cons_zero, List.set_cons_succ] at H
 refine Y.z ?_
 refine WP.ret ⟨[_], ⟨(by exact resCellA 1 H rfl (agg_run rfl) (size_run rfl) (by rfl) rfl), trivial⟩, ?_⟩
 exact ⟨T, c, L, rfl, hT, H.drop ((((List.Sublist.refl _).cons _).cons _).cons _)⟩
end Go.Proofs.YtgcokllbophkkaaGreat
