/-
 Plain: lists in lexical order; the best of some lists.
-/
import Derived.Test.YthobaaefdehoiaaGreatFacts
import Derived.Shelf.Small.Wraps
import Derived.Shelf.Sort.Plain
import Derived.Shelf.Slices.Turned
import Derived.Shelf.Slices.Reverse
import Derived.Ground.Names2Prog
import Derived.Shelf.Slices.CompactI
import Derived.Shelf.Slices.In.SortNone
import Derived.Shelf.SlicesE.Reverse
import Derived.Test.YthobaaefdehoiaaGreatProg
import Derived.Test.YthobaaefdehoiaaGreatB4
import Derived.Test.YthobaaefdehoiaaGreatPtr
import Derived.Sort.OwnSortedInts
import Derived.Test.YthobaaefdehoiaaGreatT12
set_option linter.all false
namespace Go.Proofs.YthobaaefdehoiaaGreat
open Go Go.W Go.RowKit
def lexB : List Int → List Int → Bool
 | [], [] => false
 | [], _ :: _ => true
 | _ :: _, [] => false
 | x :: a, y :: b => if x < y then true else if y < x then false else lexB a b
theorem lexB_irr : ∀ a, lexB a a = false
 | [] => rfl
 | x :: a => by rw [lexB, if_neg (Int.lt_irrefl _), if_neg (Int.lt_irrefl _), lexB_irr a]
theorem lexB_tri : ∀ {a b : List Int}, lexB a b = false → lexB b a = false → a = b
 | [], [], _, _ => rfl
 | [], _ :: _, h, _ => by cases h
 | _ :: _, [], _, h => by cases h
 | x :: a, y :: b, h1, h2 => by
  rw [lexB] at h1 h2
  by_cases h3 : x < y
  ·rw [if_pos h3] at h1; cases h1
  ·by_cases h4 : y < x
   ·rw [if_pos h4] at h2; cases h2
   ·rw [if_neg h3, if_neg h4] at h1
    rw [if_neg h4, if_neg h3] at h2
    rw [lexB_tri h1 h2, show x = y by omega]
theorem lexB_asym : ∀ {a b : List Int}, lexB a b = true → lexB b a = false
 | [], [], h => by cases h
 | [], _ :: _, _ => rfl
 | _ :: _, [], h => by cases h
 | x :: a, y :: b, h => by
  rw [lexB] at h ⊢
  by_cases h3 : x < y
  ·rw [if_neg (show ¬ y < x by omega), if_pos h3]
  ·by_cases h4 : y < x
   ·rw [if_neg h3, if_pos h4] at h; cases h
   ·rw [if_neg h3, if_neg h4] at h
    rw [if_neg h4, if_neg h3]; exact lexB_asym h
theorem lexB_trans : ∀ {a b c : List Int}, lexB a b = true → lexB b c = true → lexB a c = true
 | [], [], _, h, _ => by cases h
 | [], _ :: _, [], _, h => by cases h
 | [], _ :: _, _ :: _, _, _ => rfl
 | _ :: _, [], _, h, _ => by cases h
 | _ :: _, _ :: _, [], _, h => by cases h
 | x :: a, y :: b, z :: c, h1, h2 => by
  rw [lexB] at h1 h2 ⊢
  by_cases h3 : x < y
  ·by_cases h4 : z < y
   ·rw [if_neg (by omega), if_pos h4] at h2; cases h2
   ·rw [if_pos (by omega)]
  ·by_cases h5 : y < x
   ·rw [if_neg h3, if_pos h5] at h1; cases h1
   ·have hxy : x = y := by omega
    subst hxy
    rw [if_neg h3, if_neg h5] at h1
    by_cases h4 : x < z
    ·rw [if_pos h4]
    ·rw [if_neg h4] at h2 ⊢
     by_cases h6 : z < x
     ·rw [if_pos h6] at h2; cases h2
     ·rw [if_neg h6] at h2 ⊢
      exact lexB_trans h1 h2
section
variable (m d : List Int → Int)
def worse (a b : List Int) : Prop := m a < m b ∨ (m a = m b ∧ (d b < d a ∨ (d b = d a ∧ lexB b a = true)))
theorem worse_irr (a : List Int) : ¬ worse m d a a := by
 rintro (h | ⟨_, h | ⟨_, h⟩⟩)
 ·omega
 ·omega
 ·rw [lexB_irr] at h; cases h
theorem worse_trans {a b c : List Int} (h1 : worse m d a b) (h2 : worse m d b c) : worse m d a c := by
 unfold worse at *
 rcases h1 with h1 | ⟨h1, h1' | ⟨h1', h1''⟩⟩ <;> rcases h2 with h2 | ⟨h2, h2' | ⟨h2', h2''⟩⟩
 ·left; omega
 ·left; omega
 ·left; omega
 ·left; omega
 ·right; exact ⟨by omega, .inl (by omega)⟩
 ·right; exact ⟨by omega, .inl (by omega)⟩
 ·left; omega
 ·right; exact ⟨by omega, .inl (by omega)⟩
 ·right; exact ⟨by omega, .inr ⟨by omega, lexB_trans h2'' h1''⟩⟩
theorem worse_tri {a b : List Int} (h1 : ¬ worse m d a b) (h2 : ¬ worse m d b a) : a = b := by
 unfold worse at *
 have e1 : m a = m b := by
  rcases Int.lt_trichotomy (m a) (m b) with h | h | h
  ·exact absurd (.inl h) h1
  ·exact h
  ·exact absurd (.inl h) h2
 have e2 : d a = d b := by
  rcases Int.lt_trichotomy (d a) (d b) with h | h | h
  ·exact absurd (.inr ⟨e1.symm, .inl h⟩) h2
  ·exact h
  ·exact absurd (.inr ⟨e1, .inl h⟩) h1
 refine lexB_tri ?_ ?_
 ·cases h : lexB a b with
  | false => rfl
  | true => exact absurd (.inr ⟨e1.symm, .inr ⟨e2, h⟩⟩) h2
 ·cases h : lexB b a with
  | false => rfl
  | true => exact absurd (.inr ⟨e1, .inr ⟨e2.symm, h⟩⟩) h1
instance (a b : List Int) : Decidable (worse m d a b) := by unfold worse; exact inferInstance
def IsBest (C : List Int → Prop) : Option (List Int) → Prop
 | none => ∀ o, ¬ C o
 | some x => C x ∧ ∀ o, C o → ¬ worse m d x o
variable {m d}
theorem IsBest.unique {C : List Int → Prop} : ∀ {x y : Option (List Int)}, IsBest m d C x → IsBest m d C y → x = y
 | none, none, _, _ => rfl
 | none, some y, h, h' => absurd h'.1 (h y)
 | some x, none, h, h' => absurd h.1 (h' x)
 | some x, some y, h, h' => by rw [worse_tri m d (h.2 y h'.1) (h'.2 x h.1)]
theorem IsBest.congr {C C' : List Int → Prop} (hc : ∀ o, C o ↔ C' o) : ∀ {x : Option (List Int)}, IsBest m d C x → IsBest m d C' x
 | none, h => fun o ho => h o ((hc o).2 ho)
 | some x, h => ⟨(hc x).1 h.1, fun o ho => h.2 o ((hc o).2 ho)⟩
variable (m d)
def bet : Option (List Int) → Option (List Int) → Option (List Int)
 | none, y => y
 | some x, none => some x
 | some x, some y => if worse m d x y then some y else some x
variable {m d}
theorem IsBest.union {C C' : List Int → Prop} : ∀ {x y : Option (List Int)}, IsBest m d C x → IsBest m d C' y → IsBest m d (fun o => C o ∨ C' o) (bet m d x y)
 | none, none, h, h' => fun o ho => ho.elim (h o) (h' o)
 | none, some y, h, h' => ⟨.inr h'.1, fun o ho => ho.elim (fun hc => absurd hc (h o)) (h'.2 o)⟩
 | some x, none, h, h' => ⟨.inl h.1, fun o ho => ho.elim (h.2 o) (fun hc => absurd hc (h' o))⟩
 | some x, some y, h, h' => by
  show IsBest m d _ (if worse m d x y then some y else some x)
  by_cases hw : worse m d x y
  ·rw [if_pos hw]
   exact ⟨.inr h'.1, fun o ho hyo => ho.elim (fun hc => h.2 o hc (worse_trans m d hw hyo)) (fun hc => h'.2 o hc hyo)⟩
  ·rw [if_neg hw]
   refine ⟨.inl h.1, fun o ho hxo => ho.elim (fun hc => h.2 o hc hxo) (fun hc => ?_)⟩
   -- x < o, not o better than y: so x < y or ..
   by_cases hyo : worse m d o y
   ·exact hw (worse_trans m d hxo hyo)
   ·have : y = o := worse_tri m d (h'.2 o hc) hyo
    subst this; exact hw hxo
theorem IsBest.one (o : List Int) : IsBest m d (fun x => x = o) (some o) := ⟨rfl, fun x hx => by subst hx; exact worse_irr m d x⟩
theorem IsBest.zero : IsBest m d (fun _ => False) none := fun _ h => h
end
theorem lexB_head {x : Int} {a b : List Int} : lexB (x :: a) (x :: b) = lexB a b := by rw [lexB, if_neg (Int.lt_irrefl _), if_neg (Int.lt_irrefl _)]
theorem lexB_pre : ∀ {p a b : List Int}, lexB (p ++ a) (p ++ b) = lexB a b
 | [], _, _ => rfl
 | x :: p, a, b => by rw [List.cons_append, List.cons_append, lexB_head, lexB_pre]
theorem desc_max : ∀ {s t : List Int}, s.Pairwise (fun x y => y < x) → t.Perm s → lexB s t = false
 | [], t, _, hp => by rw [hp.eq_nil]; rfl
 | a :: s, t, hs, hp => by
  rw [List.pairwise_cons] at hs
  cases t with
  | nil => rfl
  | cons b t =>
   have hb : b ∈ a :: s := hp.mem_iff.1 List.mem_cons_self
   have hba : b ≤ a := by
    rcases List.mem_cons.1 hb with rfl | hb
    ·exact Int.le_refl _
    ·have := hs.1 b hb; omega
   by_cases h : b = a
   ·subst h
    rw [lexB_head]
    exact desc_max hs.2 (List.perm_cons b |>.1 hp)
   ·rw [lexB, if_neg (by omega), if_pos (by omega)]
theorem asc_min : ∀ {s t : List Int}, s.Pairwise (fun x y => x < y) → t.Perm s → lexB t s = false
 | [], t, _, hp => by rw [hp.eq_nil]; rfl
 | a :: s, t, hs, hp => by
  rw [List.pairwise_cons] at hs
  cases t with
  | nil => exact absurd hp.length_eq (by simp)
  | cons b t =>
   have hb : b ∈ a :: s := hp.mem_iff.1 List.mem_cons_self
   have hba : a ≤ b := by
    rcases List.mem_cons.1 hb with rfl | hb
    ·exact Int.le_refl _
    ·have := hs.1 b hb; omega
   by_cases h : b = a
   ·subst h
    rw [lexB_head]
    exact asc_min hs.2 (List.perm_cons b |>.1 hp)
   ·rw [lexB, if_neg (by omega), if_pos (by omega)]
theorem next_ok {p big small : List Int} {x y : Int} (hd : (big ++ y :: small).Pairwise fun a b => b < a) (hxy : x < y) (hsm : ∀ z ∈ small, z < x) :
  lexB (p ++ x :: (big ++ y :: small)) (p ++ y :: (big ++ x :: small).reverse) = true ∧
  (p ++ y :: (big ++ x :: small).reverse).Perm (p ++ x :: (big ++ y :: small)) ∧
  ∀ o : List Int, o.Perm (p ++ x :: (big ++ y :: small)) → lexB (p ++ x :: (big ++ y :: small)) o = true → o = p ++ y :: (big ++ x :: small).reverse ∨ lexB (p ++ y :: (big ++ x :: small).reverse) o = true := by
 have hd0 := hd
 rw [List.pairwise_append, List.pairwise_cons] at hd
 obtain ⟨d1, ⟨d2, d3⟩, d4⟩ := hd
 have hbig : ∀ z ∈ big, y < z := fun z hz => d4 z hz y List.mem_cons_self
 have hasc : ((big ++ x :: small).reverse).Pairwise fun a b => a < b := by
  rw [List.pairwise_reverse, List.pairwise_append, List.pairwise_cons]
  refine ⟨d1, ⟨hsm, d3⟩, fun z hz w hw => ?_⟩
  have := hbig z hz
  rcases List.mem_cons.1 hw with rfl | hw
  ·omega
  ·have := hsm w hw; omega
 have hperm : (y :: (big ++ x :: small).reverse).Perm (x :: (big ++ y :: small)) := by
  refine ((List.reverse_perm _).cons y).trans ?_
  refine (List.Perm.cons y List.perm_middle).trans ?_
  refine (List.Perm.swap x y _).trans ?_
  exact List.Perm.cons x List.perm_middle.symm
 refine ⟨by rw [lexB_pre, lexB, if_pos hxy], hperm.append_left p, ?_⟩
 induction p with
 | nil =>
  intro o ho hlt
  simp only [List.nil_append] at ho hlt ⊢
  cases o with
  | nil => cases hlt
  | cons z t =>
   have hz : z ∈ x :: (big ++ y :: small) := ho.mem_iff.1 List.mem_cons_self
   rw [lexB] at hlt
   by_cases h1 : x < z
   · -- z is at least y
    have hzy : y ≤ z := by
     rcases List.mem_cons.1 hz with rfl | hz
     ·omega
     ·rcases List.mem_append.1 hz with hz | hz
      ·have := hbig z hz; omega
      ·rcases List.mem_cons.1 hz with rfl | hz
       ·exact Int.le_refl _
       ·have := hsm z hz; omega
    by_cases h2 : z = y
    ·subst h2
     have hp : t.Perm (big ++ x :: small).reverse := by
      have := ho.trans hperm.symm
      exact (List.perm_cons z).1 this
     have hm := asc_min hasc hp
     cases hx : lexB (big ++ x :: small).reverse t with
     | false => left; rw [lexB_tri hm hx]
     | true => right; rw [lexB_head]; exact hx
    ·right; rw [lexB, if_pos (by omega)]
   ·rw [if_neg h1] at hlt
    by_cases h2 : z < x
    ·rw [if_pos h2] at hlt; cases hlt
    ·rw [if_neg h2] at hlt
     have : z = x := by omega
     subst this
     rw [desc_max hd0 ((List.perm_cons z).1 ho)] at hlt; cases hlt
 | cons a p ih =>
  intro o ho hlt
  simp only [List.cons_append] at ho hlt ⊢
  cases o with
  | nil => cases hlt
  | cons z t =>
   rw [lexB] at hlt
   by_cases h1 : a < z
   ·right; rw [lexB, if_pos h1]
   ·rw [if_neg h1] at hlt
    by_cases h2 : z < a
    ·rw [if_pos h2] at hlt; cases hlt
    ·rw [if_neg h2] at hlt
     have : z = a := by omega
     subst this
     rcases ih t ((List.perm_cons z).1 ho) hlt with h | h
     ·left; rw [h]
     ·right; rw [lexB_head]; exact h
def pickS : List Int → Nat → List Int
 | [], _ => []
 | x :: l, s => (if s % 2 = 1 then [x] else []) ++ pickS l (s / 2)
theorem pickS_snoc : ∀ (l : List Int) (x : Int) (s : Nat), pickS (l ++ [x]) s = pickS l s ++ if (s / 2 ^ l.length) % 2 = 1 then [x] else []
 | [], x, s => by simp [pickS]
 | a :: l, x, s => by
  rw [List.cons_append, pickS, pickS, pickS_snoc l x (s / 2), List.append_assoc, Nat.div_div_eq_div_mul, List.length_cons, Nat.pow_succ, Nat.mul_comm 2]
theorem pickS_all (p : Int → Bool) : ∀ l : List Int, ∃ s, s < 2 ^ l.length ∧ pickS l s = l.filter p
 | [] => ⟨0, by simp, rfl⟩
 | x :: l => by
  obtain ⟨s, h1, h2⟩ := pickS_all p l
  cases hp : p x with
  | true => exact ⟨2 * s + 1, by rw [List.length_cons, Nat.pow_succ]; omega, by rw [pickS, if_pos (by omega), show (2 * s + 1) / 2 = s by omega, h2, List.filter_cons_of_pos hp]; rfl⟩
  | false => exact ⟨2 * s, by rw [List.length_cons, Nat.pow_succ]; omega, by rw [pickS, if_neg (by omega), show 2 * s / 2 = s by omega, h2, List.filter_cons_of_neg (by rw [hp]; simp)]; rfl⟩
theorem pickS_sub : ∀ (l : List Int) (s : Nat), (pickS l s).Sublist l
 | [], _ => List.Sublist.refl _
 | x :: l, s => by
  rw [pickS]
  have := pickS_sub l (s / 2)
  split
  ·exact this.cons_cons x
  ·exact this.cons x
theorem part_of {l o : List Int} (hl : l.Nodup) (ho : o.Nodup) (hs : ∀ x ∈ o, x ∈ l) : ∃ s, s < 2 ^ l.length ∧ o.Perm (pickS l s) := by
 obtain ⟨s, h1, h2⟩ := pickS_all (fun x => decide (x ∈ o)) l
 refine ⟨s, h1, ?_⟩
 rw [h2]
 refine (List.perm_ext_iff_of_nodup ho (hl.filter _)).2 fun x => ?_
 rw [List.mem_filter]
 simp
 exact hs x
end Go.Proofs.YthobaaefdehoiaaGreat

/-
 Plain: the step from an order to the next one, by places; all orders are met.
-/
set_option linter.all false
namespace Go.Proofs.YthobaaefdehoiaaGreat
open Go Go.W Go.RowKit
def swp (l : List Int) (i k : Nat) : List Int := (l.set i (l.getD k 0)).set k (l.getD i 0)
theorem swp_len (l : List Int) (i k : Nat) : (swp l i k).length = l.length := by simp [swp]
def stepL (l : List Int) (i k : Nat) : List Int := (swp l i k).take (i + 1) ++ ((swp l i k).drop (i + 1)).reverse
theorem stepL_len (l : List Int) (i k : Nat) : (stepL l i k).length = l.length := by
 unfold stepL
 rw [List.length_append, List.length_reverse, ← List.length_append, List.take_append_drop, swp_len]
theorem getDi {l : List Int} {k : Nat} (h : k < l.length) : l.getD k 0 = l[k] := by rw [List.getD_eq_getElem?_getD, List.getElem?_eq_getElem h]; rfl
theorem stepL_form {p big small : List Int} {x y : Int} : stepL (p ++ x :: (big ++ y :: small)) p.length (p.length + 1 + big.length) = p ++ y :: (big ++ x :: small).reverse := by
 have e1 : (p ++ x :: (big ++ y :: small)).getD p.length 0 = x := by rw [List.getD_eq_getElem?_getD, List.getElem?_append_right (Nat.le_refl _)]; simp
 have e2 : (p ++ x :: (big ++ y :: small)).getD (p.length + 1 + big.length) 0 = y := by
  rw [List.getD_eq_getElem?_getD, List.getElem?_append_right (by omega), show p.length + 1 + big.length - p.length = big.length + 1 by omega, List.getElem?_cons_succ, List.getElem?_append_right (Nat.le_refl _)]; simp
 have e3 : swp (p ++ x :: (big ++ y :: small)) p.length (p.length + 1 + big.length) = p ++ y :: (big ++ x :: small) := by
  unfold swp
  rw [e1, e2, List.set_append_right _ _ (Nat.le_refl _), Nat.sub_self, List.set_cons_zero, List.set_append_right _ _ (by omega), show p.length + 1 + big.length - p.length = big.length + 1 by omega, List.set_cons_succ, List.set_append_right _ _ (Nat.le_refl _), Nat.sub_self, List.set_cons_zero]
 unfold stepL
 rw [e3, show p ++ y :: (big ++ x :: small) = (p ++ [y]) ++ (big ++ x :: small) by simp, List.take_left' (by simp), List.drop_left' (by simp)]
 simp
def Fall (l : List Int) (j : Nat) : Prop := ∀ a b, j ≤ a → a < b → b < l.length → l.getD b 0 < l.getD a 0
theorem split_at {l : List Int} {i k : Nat} (hik : i < k) (hk : k < l.length) : ∃ p big small, l = p ++ l.getD i 0 :: (big ++ l.getD k 0 :: small) ∧ p.length = i ∧ p.length + 1 + big.length = k ∧ (big ++ l.getD k 0 :: small) = l.drop (i + 1) ∧ small = l.drop (k + 1) := by
 refine ⟨l.take i, (l.drop (i + 1)).take (k - (i + 1)), l.drop (k + 1), ?_, by simp; omega, by simp; omega, ?_, rfl⟩
 ·rw [getDi hk, getDi (show i < l.length by omega)]
  have h1 : (l.drop (i + 1)).take (k - (i + 1)) ++ l[k] :: l.drop (k + 1) = l.drop (i + 1) := by
   have := List.take_append_drop (k - (i + 1)) (l.drop (i + 1))
   rw [List.drop_drop, show i + 1 + (k - (i + 1)) = k by omega, List.drop_eq_getElem_cons hk] at this
   exact this
  rw [h1, ← List.drop_eq_getElem_cons (show i < l.length by omega), List.take_append_drop]
 ·rw [getDi hk]
  have := List.take_append_drop (k - (i + 1)) (l.drop (i + 1))
  rw [List.drop_drop, show i + 1 + (k - (i + 1)) = k by omega, List.drop_eq_getElem_cons hk] at this
  exact this
theorem fall_drop {l : List Int} {j : Nat} (h : Fall l j) : (l.drop j).Pairwise fun a b => b < a := by
 rw [List.pairwise_iff_getElem]
 intro a b ha hb hab
 rw [List.getElem_drop, List.getElem_drop]
 have := h (j + a) (j + b) (by omega) (by omega) (by simp at hb; omega)
 rw [getDi (by simp at hb; omega), getDi (by simp at ha; omega)] at this
 exact this
theorem step_ok {l : List Int} {i k : Nat} (hik : i < k) (hk : k < l.length) (hf : Fall l (i + 1)) (hlt : l.getD i 0 < l.getD k 0) (hno : ∀ k', k < k' → k' < l.length → ¬ l.getD i 0 < l.getD k' 0) (hnd : l.Nodup) :
  lexB l (stepL l i k) = true ∧ (stepL l i k).Perm l ∧ ∀ o : List Int, o.Perm l → lexB l o = true → o = stepL l i k ∨ lexB (stepL l i k) o = true := by
 obtain ⟨p, big, small, h1, h2, h3, h4, h5⟩ := split_at hik hk
 have hd := fall_drop hf
 rw [← h4] at hd
 have hsm : ∀ z ∈ small, z < l.getD i 0 := fun z hz => by
  rw [h5] at hz
  obtain ⟨q, hq, rfl⟩ := List.mem_iff_getElem.1 hz
  simp at hq
  rw [List.getElem_drop]
  have := hno (k + 1 + q) (by omega) (by omega)
  rw [getDi (show k + 1 + q < l.length by omega)] at this
  have hne : l[k + 1 + q] ≠ l.getD i 0 := by
   rw [getDi (show i < l.length by omega)]
   intro he
   have := (List.getElem_inj hnd).1 he
   omega
  omega
 have hn := next_ok (p := p) (x := l.getD i 0) hd hlt hsm
 have e : stepL l i k = p ++ l.getD k 0 :: (big ++ l.getD i 0 :: small).reverse := by
  have := stepL_form (p := p) (big := big) (small := small) (x := l.getD i 0) (y := l.getD k 0)
  rw [h3, ← h1, h2] at this
  exact this
 rw [e]
 rw [← h1] at hn
 exact hn
theorem fall_more {l : List Int} {i : Nat} (hf : Fall l (i + 1)) (hno : ∀ k, i < k → k < l.length → ¬ l.getD i 0 < l.getD k 0) (hnd : l.Nodup) : Fall l i := fun a b h1 h2 h3 => by
 by_cases h : a = i
 ·subst h
  have := hno b h2 h3
  have hne : l.getD b 0 ≠ l.getD a 0 := by
   rw [getDi h3, getDi (show a < l.length by omega)]
   intro he
   have := (List.getElem_inj hnd).1 he
   omega
  omega
 ·exact hf a b (by omega) h2 h3
structure Met (l0 cur : List Int) (V : List (List Int)) : Prop where
 perm : cur.Perm l0
 sub : ∀ o ∈ V, o.Perm l0
 all : ∀ o : List Int, o.Perm l0 → lexB o cur = true → o ∈ V
theorem Met.start {l0 cur : List Int} (hp : cur.Perm l0) (hs : cur.Pairwise fun x y => x < y) : Met l0 cur [] :=
 ⟨hp, fun o h => (List.not_mem_nil h).elim, fun o ho hl => by rw [asc_min hs (ho.trans hp.symm)] at hl; cases hl⟩
theorem Met.step {l0 cur : List Int} {V : List (List Int)} (h : Met l0 cur V) {i k : Nat} (hik : i < k) (hk : k < cur.length) (hf : Fall cur (i + 1)) (hlt : cur.getD i 0 < cur.getD k 0) (hno : ∀ k', k < k' → k' < cur.length → ¬ cur.getD i 0 < cur.getD k' 0) (hnd : cur.Nodup) :
  Met l0 (stepL cur i k) (V ++ [cur]) := by
 obtain ⟨h1, h2, h3⟩ := step_ok hik hk hf hlt hno hnd
 refine ⟨h2.trans h.perm, fun o ho => ?_, fun o ho hl => ?_⟩
 ·rcases List.mem_append.1 ho with ho | ho
  ·exact h.sub o ho
  ·rw [List.mem_singleton.1 ho]; exact h.perm
 ·cases hc : lexB o cur with
  | true => exact List.mem_append_left _ (h.all o ho hc)
  | false =>
   cases hc2 : lexB cur o with
   | false => rw [lexB_tri hc hc2]; simp
   | true =>
    exfalso
    rcases h3 o (ho.trans h.perm.symm) hc2 with h4 | h4
    ·rw [h4, lexB_irr] at hl; cases hl
    ·rw [lexB_asym h4] at hl; cases hl
theorem Met.done {l0 cur : List Int} {V : List (List Int)} (h : Met l0 cur V) (hf : Fall cur 0) : ∀ o, o ∈ V ++ [cur] ↔ o.Perm l0 := fun o => by
 constructor
 ·intro ho
  rcases List.mem_append.1 ho with ho | ho
  ·exact h.sub o ho
  ·rw [List.mem_singleton.1 ho]; exact h.perm
 ·intro ho
  have hm := desc_max (by have := fall_drop hf; rwa [List.drop_zero] at this) (ho.trans h.perm.symm)
  cases hc : lexB o cur with
  | true => exact List.mem_append_left _ (h.all o ho hc)
  | false => rw [lexB_tri hc hm]; simp
def encL : List Int → Nat
 | [] => 0
 | x :: l => x.toNat * 64 ^ l.length + encL l
theorem encL_lt : ∀ {l : List Int}, (∀ x ∈ l, 0 ≤ x ∧ x < 64) → encL l < 64 ^ l.length
 | [], _ => by simp [encL]
 | x :: l, h => by
  have ih := encL_lt (l := l) fun y hy => h y (List.mem_cons_of_mem _ hy)
  have hx := h x List.mem_cons_self
  rw [encL, List.length_cons, Nat.pow_succ, Nat.mul_comm (64 ^ l.length)]
  have : x.toNat ≤ 63 := by omega
  have := Nat.mul_le_mul_right (64 ^ l.length) this
  omega
theorem encL_lex : ∀ {a b : List Int}, a.length = b.length → (∀ x ∈ a, 0 ≤ x ∧ x < 64) → (∀ x ∈ b, 0 ≤ x ∧ x < 64) → lexB a b = true → encL a < encL b
 | [], [], _, _, _, h => by cases h
 | [], _ :: _, h, _, _, _ => by cases h
 | _ :: _, [], h, _, _, _ => by cases h
 | x :: a, y :: b, hl, ha, hb, h => by
  have hl' : a.length = b.length := by simpa using hl
  have hx := ha x List.mem_cons_self
  have hy := hb y List.mem_cons_self
  have ea := encL_lt (l := a) fun z hz => ha z (List.mem_cons_of_mem _ hz)
  rw [lexB] at h
  rw [encL, encL, hl']
  by_cases h1 : x < y
  ·have h2 : x.toNat + 1 ≤ y.toNat := by omega
   have h3 := Nat.mul_le_mul_right (64 ^ b.length) h2
   rw [Nat.add_mul, Nat.one_mul] at h3
   rw [hl'] at ea
   omega
  ·rw [if_neg h1] at h
   by_cases h2 : y < x
   ·rw [if_pos h2] at h; cases h
   ·rw [if_neg h2] at h
    have : x = y := by omega
    subst this
    have := encL_lex hl' (fun z hz => ha z (List.mem_cons_of_mem _ hz)) (fun z hz => hb z (List.mem_cons_of_mem _ hz)) h
    omega
end Go.Proofs.YthobaaefdehoiaaGreat

/-
 Plain: the best of the orders that were met.
-/
set_option linter.all false
namespace Go.Proofs.YthobaaefdehoiaaGreat
open Go Go.W Go.RowKit
section
variable (m d : List Int → Int) (F : List Int → Bool)
def visB (s : Option (List Int)) (o : List Int) : Option (List Int) := if F o = true then bet m d s (some o) else s
variable {m d F}
theorem IsBest.vis {C : List Int → Prop} {s : Option (List Int)} (h : IsBest m d C s) (o : List Int) : IsBest m d (fun x => C x ∨ (x = o ∧ F o = true)) (visB m d F s o) := by
 unfold visB
 by_cases hf : F o = true
 ·rw [if_pos hf]
  exact (h.union (IsBest.one o)).congr fun x => by simp [hf]
 ·rw [if_neg hf]
  exact h.congr fun x => by simp [hf]
theorem IsBest.fold : ∀ {V : List (List Int)} {C : List Int → Prop} {s : Option (List Int)}, IsBest m d C s → IsBest m d (fun x => C x ∨ (x ∈ V ∧ F x = true)) (V.foldl (visB m d F) s)
 | [], C, s, h => h.congr fun x => by simp
 | o :: V, C, s, h => by
  refine (IsBest.fold (V := V) (h.vis (F := F) o)).congr fun x => ?_
  simp only [List.mem_cons]
  constructor
  ·rintro ((h | ⟨h, h2⟩) | h)
   ·exact .inl h
   ·exact .inr ⟨.inl h, by rw [h]; exact h2⟩
   ·exact .inr ⟨.inr h.1, h.2⟩
  ·rintro (h | ⟨h | h, h2⟩)
   ·exact .inl (.inl h)
   ·exact .inl (.inr ⟨h, by rw [← h]; exact h2⟩)
   ·exact .inr ⟨h, h2⟩
end
end Go.Proofs.YthobaaefdehoiaaGreat

/-
 The contracts of library functions at this seat, as the kit's command has written them in plain words.
-/
set_option linter.all false
namespace Go.Proofs
open Go.Shelf
def Tryz.lays189_ren : Go.Shelf.Ren := ⟨fun | 189 => 85 | 125 => 101 | 257 => 100 | 128 => 113 | 129 => 114 | 294 => 105 | 295 => 106 | 296 => 107 | 297 => 108 | 298 => 109 | 299 => 110 | 216 => 47 | 300 => 111 | 301 => 112 | 328 => 115 | 329 => 116 | 330 => 117 | 331 => 118 | 332 => 119 | 215 => 58 | 343 => 120 | n => n, fun | 28 => 30 | 3 => 3 | 46 => 192 | 0 => 0 | 51 => 202 | 53 => 204 | 4 => 4 | 183 => 196 | 182 => 195 | 131 => 46 | 5 => 5 | 9 => 9 | 218 => 205 | 222 => 209 | 228 => 211 | 229 => 174 | n => n, fun | n => n⟩
theorem Tryz.lays189 : Go.Proofs.Lays.n189 Tryz.prog Tryz.lays189_ren := {
 mixed := by kernel_rfl
 f125 := Tryz.func101.trans (congrArg some (by kernel_rfl))
 f128 := Tryz.func113.trans (congrArg some (by kernel_rfl))
 f129 := Tryz.func114.trans (congrArg some (by kernel_rfl))
 f189 := Tryz.func85.trans (congrArg some (by kernel_rfl))
 f215 := Tryz.func58.trans (congrArg some (by kernel_rfl))
 f216 := Tryz.func47.trans (congrArg some (by kernel_rfl))
 f257 := Tryz.func100.trans (congrArg some (by kernel_rfl))
 f294 := Tryz.func105.trans (congrArg some (by kernel_rfl))
 f295 := Tryz.func106.trans (congrArg some (by kernel_rfl))
 f296 := Tryz.func107.trans (congrArg some (by kernel_rfl))
 f297 := Tryz.func108.trans (congrArg some (by kernel_rfl))
 f298 := Tryz.func109.trans (congrArg some (by kernel_rfl))
 f299 := Tryz.func110.trans (congrArg some (by kernel_rfl))
 f300 := Tryz.func111.trans (congrArg some (by kernel_rfl))
 f301 := Tryz.func112.trans (congrArg some (by kernel_rfl))
 f328 := Tryz.func115.trans (congrArg some (by kernel_rfl))
 f329 := Tryz.func116.trans (congrArg some (by kernel_rfl))
 f330 := Tryz.func117.trans (congrArg some (by kernel_rfl))
 f331 := Tryz.func118.trans (congrArg some (by kernel_rfl))
 f332 := Tryz.func119.trans (congrArg some (by kernel_rfl))
 f343 := Tryz.func120.trans (congrArg some (by kernel_rfl))
 t0 := Tryz.underlying0
 a0 := Tryz.isAgg0
 z0 := Tryz.sizeOf0
 v0 := Tryz.zeroValue0
 t3 := Tryz.underlying3
 a3 := Tryz.isAgg3
 z3 := Tryz.sizeOf3
 v3 := Tryz.zeroValue3
 t4 := Tryz.underlying4
 a4 := Tryz.isAgg4
 z4 := Tryz.sizeOf4
 v4 := Tryz.zeroValue4
 t5 := Tryz.underlying5
 a5 := Tryz.isAgg5
 z5 := Tryz.sizeOf5
 v5 := Tryz.zeroValue5
 t9 := Tryz.underlying9
 a9 := Tryz.isAgg9
 z9 := Tryz.sizeOf9
 v9 := Tryz.zeroValue9
 t28 := Tryz.underlying30
 a28 := Tryz.isAgg30
 z28 := Tryz.sizeOf30
 v28 := Tryz.zeroValue30
 t46 := Tryz.underlying192
 a46 := Tryz.isAgg192
 z46 := Tryz.sizeOf192
 v46 := Tryz.zeroValue192
 t51 := Tryz.underlying202
 a51 := Tryz.isAgg202
 z51 := Tryz.sizeOf202
 v51 := Tryz.zeroValue202
 t53 := Tryz.underlying204
 a53 := Tryz.isAgg204
 z53 := Tryz.sizeOf204
 v53 := Tryz.zeroValue204
 t131 := Tryz.underlying46
 a131 := Tryz.isAgg46
 z131 := Tryz.sizeOf46
 v131 := Tryz.zeroValue46
 t182 := Tryz.underlying195
 a182 := Tryz.isAgg195
 z182 := Tryz.sizeOf195
 v182 := Tryz.zeroValue195
 t183 := Tryz.underlying196
 a183 := Tryz.isAgg196
 z183 := Tryz.sizeOf196
 v183 := Tryz.zeroValue196
 t218 := Tryz.underlying205
 a218 := Tryz.isAgg205
 z218 := Tryz.sizeOf205
 v218 := Tryz.zeroValue205
 t222 := Tryz.underlying209
 a222 := Tryz.isAgg209
 z222 := Tryz.sizeOf209
 v222 := Tryz.zeroValue209
 t228 := Tryz.underlying211
 a228 := Tryz.isAgg211
 z228 := Tryz.sizeOf211
 v228 := Tryz.zeroValue211
 t229 := Tryz.underlying174
 a229 := Tryz.isAgg174
 z229 := Tryz.sizeOf174
 v229 := Tryz.zeroValue174 }
def Tryz.lays112_ren : Go.Shelf.Ren := ⟨fun | 112 => 87 | n => n, fun | 28 => 30 | 3 => 3 | 4 => 4 | 0 => 0 | n => n, fun | n => n⟩
theorem Tryz.lays112 : Go.Proofs.Lays.n112 Tryz.prog Tryz.lays112_ren := {
 mixed := by kernel_rfl
 f112 := Tryz.func87.trans (congrArg some (by kernel_rfl))
 t0 := Tryz.underlying0
 a0 := Tryz.isAgg0
 z0 := Tryz.sizeOf0
 v0 := Tryz.zeroValue0
 t3 := Tryz.underlying3
 a3 := Tryz.isAgg3
 z3 := Tryz.sizeOf3
 v3 := Tryz.zeroValue3
 t4 := Tryz.underlying4
 a4 := Tryz.isAgg4
 z4 := Tryz.sizeOf4
 v4 := Tryz.zeroValue4
 t28 := Tryz.underlying30
 a28 := Tryz.isAgg30
 z28 := Tryz.sizeOf30
 v28 := Tryz.zeroValue30 }
def Tryz.laysNm220_ren : Go.Shelf.Ren := ⟨fun | 20 => 64 | n => n, fun | 22 => 30 | 3 => 3 | 4 => 4 | 0 => 0 | n => n, fun | n => n⟩
theorem Tryz.laysNm220 : Go.Proofs.Lays2.n20 Tryz.prog Tryz.laysNm220_ren := {
 mixed := by kernel_rfl
 f20 := Tryz.func64.trans (congrArg some (by kernel_rfl))
 t0 := Tryz.underlying0
 a0 := Tryz.isAgg0
 z0 := Tryz.sizeOf0
 v0 := Tryz.zeroValue0
 t3 := Tryz.underlying3
 a3 := Tryz.isAgg3
 z3 := Tryz.sizeOf3
 v3 := Tryz.zeroValue3
 t4 := Tryz.underlying4
 a4 := Tryz.isAgg4
 z4 := Tryz.sizeOf4
 v4 := Tryz.zeroValue4
 t22 := Tryz.underlying30
 a22 := Tryz.isAgg30
 z22 := Tryz.sizeOf30
 v22 := Tryz.zeroValue30
 i3 := by kernel_rfl }
open Go.Sort Go.RowKit in
theorem Tryz.slices_Sort_int (blk off cap : Nat) (zs : List Int) (w : World) (hH : Holds (Value.int .i64) w blk off zs.toArray) (hblk : blk < w.heap.size) (hsz : zs.length < 4611686018427387904) :
  Calls Tryz.prog 85 #[.slice (some ⟨blk, off, none⟩) zs.length cap] w fun e w' =>
   e = .returned (.tuple #[]) ∧ ∃ n os, w' = grow (putRow (Value.int .i64) (Sort.ahead w n) blk off (zs.mergeSort fun x y => decide (x ≤ y)).toArray) os := Any.slices_Sort_int Tryz.lays189 blk off cap zs w hH hblk hsz
open Go.RowKit Go.Lib Go.Sort in
theorem Tryz.slices_Reverse_int (blk off cap : Nat) (zs : List Int) (w : World) (hH : Holds (Value.int .i64) w blk off zs.toArray) (hsz : zs.length ≤ 9223372036854775807) :
  Calls Tryz.prog 87 #[.slice (some ⟨blk, off, none⟩) zs.length cap] w fun e w' => e = .returned (.tuple #[]) ∧ ∃ n, w' = putRow (Value.int .i64) (Sort.ahead w n) blk off zs.reverse.toArray := Any.slices_Reverse_int Tryz.lays112 blk off cap zs w hH hsz
open Go.RowKit Go.Lib Go.Sort in
theorem Tryz.slices_Compact_int_empty (a : Option Addr) (cap : Nat) (w : World) :
  Calls Tryz.prog 64 #[.slice a 0 cap] w fun e w' => e = .returned (.slice a 0 cap) ∧ w' = w := Any.slices_Compact_int_empty Tryz.laysNm220 a cap w
open Go.RowKit Go.Sort in
theorem Tryz.slices_Sort_int_none (p : Option Addr) (cap : Nat) (w : World) :
  Calls Tryz.prog 85 #[.slice p 0 cap] w fun e w' => e = .returned (.tuple #[]) ∧ w' = w := Any.slices_Sort_int_none Tryz.lays189 p cap w
end Go.Proofs

/-
 Walks: slices.Sorted of slices.Values, Compact, Reverse.
-/
set_option linter.all false
namespace Go.Proofs.YthobaaefdehoiaaGreat
open Go Go.W Go.RowKit
def cmpT (zs : List Int) : Nat → List Int
 | 0 => []
 | i + 1 => cmpT zs i ++ if 0 < i ∧ zs.getD i 0 = zs.getD (i - 1) 0 then [] else [zs.getD i 0]
theorem cmpT_id {zs : List Int} : ∀ {i : Nat}, i ≤ zs.length → (∀ j, 0 < j → j < i → zs.getD j 0 ≠ zs.getD (j - 1) 0) → cmpT zs i = zs.take i
 | 0, _, _ => by simp [cmpT]
 | i + 1, hi, h => by
  rw [cmpT, cmpT_id (by omega) fun j h0 h1 => h j h0 (by omega), if_neg (fun hh => h i hh.1 (by omega) hh.2), List.take_succ_eq_append_getElem (show i < zs.length by omega), List.getD_eq_getElem?_getD, List.getElem?_eq_getElem (by omega)]; rfl
theorem getI {l : List Int} {k : Nat} (h : k < l.length) : l.getD k 0 = l[k] := by rw [List.getD_eq_getElem?_getD, List.getElem?_eq_getElem h]; rfl
set_option maxHeartbeats 2000000 in
theorem slCompact (g : Nat) (zs : List Int) (sp : List Value) (cap : Nat) (w0 : World) (H0 : SH w0 [g] w0 [⟨g, 3, zs.map I ++ sp⟩]) (hl : zs.length ≤ 100000) (hcap : zs.length ≤ cap) :
  Calls Tryz.prog 64 #[.slice (some ⟨g, 0, none⟩) zs.length cap] w0 fun e w' => ∃ sp', e = .returned (.slice (some ⟨g, 0, none⟩) (cmpT zs zs.length).length cap) ∧ SH w0 [g] w' [⟨g, 3, (cmpT zs zs.length).map I ++ sp'⟩] := by
 have H := H0
 have hcl : ∀ (cur : List Int) (w : World), SH w0 [g] w [⟨g, 3, cur.map I ++ sp⟩] → ∀ k (h : k < cur.length), w.cell? ⟨g, 0 + k, none⟩ = some (I cur[k]) := fun cur w H k hk => by
  obtain ⟨b, o, e, hc⟩ := OnesAt.own (enc := I) (l := cur) (post := sp) H 0 rfl rfl k hk
  cases e; exact hc
 refine Calls.ofWP Tryz.func64 rfl Tryz.results64 Tryz.ntmps64 rfl <| Y.qr <| Y.v (Ev.asS rfl) <| Y.z <| Y.q <| Y.qr <| Y.v (Ev.mvS rfl) <| Y.v (Y.n rfl) <| Y.v (Ev.lss rfl rfl) <| Y.z ?_
 refine WP.cond rfl (fun hc1 => ?_) (fun hc1 => ?_)
 ·refine Y.qr <| Y.v (Ev.mvS rfl) <| Y.v (Ev.asS rfl) <| Y.z ?_
  refine WP.ret ⟨_, rfl, ?_⟩
  have h : zs.length < 2 := by simp at hc1; omega
  have hid : cmpT zs zs.length = zs := by rw [cmpT_id (Nat.le_refl _) (fun j h0 h1 => by omega), List.take_length]
  rw [hid]
  exact ⟨sp, rfl, H⟩
 have h2 : 2 ≤ zs.length := by simp at hc1; omega
 refine Y.k <| Y.q <| Y.qr <| Y.b rfl <| Y.z <| WP.block <| WP.loop [2, 3, 4, 5, 10, 11, 12, 13, 14, 15, 16, 17, 18, 19, 20, 21, 22, 23, 24, 25, 26, 27, 28, 29, 30, 31, 32, 33, 34, 35, 36, 37, 38, 39, 40, 41, 42, 43, 44, 45, 46, 47, 48, 49, 50, 51, 52, 53, 54, 55, 56, 57, 58, 59] (fun k e w' => ∃ (q : Nat), q + 1 + k = zs.length ∧ e 3 = I ((q + 1 : Nat) : Int) ∧ (∀ j, 0 < j → j < q + 1 → zs.getD j 0 ≠ zs.getD (j - 1) 0) ∧ SH w0 [g] w' [⟨g, 3, zs.map I ++ sp⟩]) ((zs.length - 1)) (⟨0, by omega, rfl, fun _ _ _ => by omega, H⟩) ?_
 clear H
 rintro k u w ⟨q, hk, h3, hall, H⟩
 refine WP.know (t := 3) h3 <| Y.q <| Y.qr <| Y.a rfl <| Y.v (Ev.mvS rfl) <| Y.v (Y.n rfl) <| Y.v (Ev.lss rfl rfl) <| Y.z ?_
 refine WP.cond rfl (fun hc4 => ?_) (fun hc4 => ?_)
 ·have hlt : q + 1 < zs.length := by simp at hc4; omega
  have hgq := getI (show q < zs.length by omega)
  have hgq1 := getI hlt
  refine Y.k <| Y.q <| WP.block <| Y.q <| WP.rstill mixed (by kernel_rfl) H ?_
  clear H; intro w hbw6 H
  have hx := hcl zs w H (q + 1) hlt
  have hy := hcl zs w H q (by omega)
  refine Y.v (Ev.mvS rfl) <| Y.a rfl <| Y.v (Y.x rfl rfl rfl rfl) <| Y.v (Y.c (by assumption) rfl) ?_
  refine Y.v (Ev.mvS rfl) <| Y.a rfl <| Y.v (Y.s rfl rfl) ?_
  rw [show (((q + 1 : Nat) : Int) - 1) = (q : Int) by omega]
  refine Y.v (Y.x rfl rfl rfl rfl) <| Y.v (Y.c (by assumption) rfl) ?_
  refine Y.v (Ev.eql rfl rfl) <| OPS.nil_s ?_
  refine WP.cond rfl (fun hc6 => ?_) (fun hc6 => ?_)
  ·have heq : zs[q + 1] = zs[q] := by simpa using hc6
   refine Y.qr <| Y.v (Ev.mvS rfl) <| Y.a rfl <| Y.v (Ev.sliceFrom2 (j := q + 1) (el_run rfl) (size_run rfl) rfl rfl rfl (by omega) (by omega)) <| Y.v (Ev.asS rfl) <| Y.z <| Y.q <| Y.qr <| Y.b rfl <| Y.z <| WP.block <| WP.loop [3, 5, 29, 30, 31, 32, 33, 34, 35, 36, 37, 38, 39, 40, 41, 42, 43, 44, 45, 46, 47, 48, 49, 50, 51, 52, 53] (fun k e w' => ∃ (m i : Nat) (cur : List Int), i + 1 + k = zs.length ∧ e 5 = I ((i - q : Nat) : Int) ∧ q + 1 ≤ i ∧ m ≤ i ∧ e 3 = I m ∧ m = (cmpT zs (i + 1)).length ∧ cur.length = zs.length ∧ cur.take m = cmpT zs (i + 1) ∧ cur.drop i = zs.drop i ∧ SH w0 [g] w' [⟨g, 3, cur.map I ++ sp⟩]) ((zs.length - 1 - (q + 1))) (⟨q + 1, q + 1, zs, by omega, by rw [show q + 1 - q = 1 by omega]; rfl, by omega, by omega, rfl, by rw [cmpT, if_pos ⟨by omega, by rw [hgq1, show q + 1 - 1 = q by omega, hgq]; exact heq⟩, List.append_nil, cmpT_id (by omega) hall]; simp; omega, rfl, by rw [cmpT, if_pos ⟨by omega, by rw [hgq1, show q + 1 - 1 = q by omega, hgq]; exact heq⟩, List.append_nil, cmpT_id (by omega) hall], rfl, H⟩) ?_
   clear H
   rintro k2 u2 w ⟨m, i, cur, hk2, h5, hqi, hmi, h3', hml, hcl2, htk, hdr, H⟩
   refine WP.know (t := 5) h5 (WP.know (t := 3) h3' ?_)
   refine Y.q <| Y.qr <| Y.a rfl <| Y.v (Ev.mvS rfl) <| Y.v (Y.n rfl) <| Y.v (Ev.lss rfl rfl) <| Y.z ?_
   refine WP.cond rfl (fun hc9 => ?_) (fun hc9 => ?_)
   ·have hlt2 : i + 1 < zs.length := by simp at hc9; omega
    have hgi := getI (show i < zs.length by omega)
    have hgi1 := getI hlt2
    have hci : cur[i]'(by omega) = zs[i] := by
     have := congrArg (fun l => l[0]?) hdr
     simp only [List.getElem?_drop, Nat.add_zero] at this
     rw [List.getElem?_eq_getElem (by omega), List.getElem?_eq_getElem (by omega)] at this
     exact Option.some.inj this
    have hci1 : cur[i + 1]'(by omega) = zs[i + 1] := by
     have := congrArg (fun l => l[1]?) hdr
     simp only [List.getElem?_drop] at this
     rw [List.getElem?_eq_getElem (by omega), List.getElem?_eq_getElem (by omega)] at this
     exact Option.some.inj this
    have hnx : cmpT zs (i + 1 + 1) = cmpT zs (i + 1) ++ if zs[i + 1] = zs[i] then [] else [zs[i + 1]] := by
     rw [cmpT, hgi1, show i + 1 - 1 = i by omega, hgi]
     by_cases hh : zs[i + 1] = zs[i]
     ·rw [if_pos ⟨by omega, hh⟩, if_pos hh]
     ·rw [if_neg (fun x => hh x.2), if_neg hh]
    have hiq : 0 + (q + 1) * 1 + (i - q) = 0 + (i + 1) := by omega
    have hiq2 : 0 + (q + 1) * 1 + (i - q - 1) = 0 + i := by omega
    refine Y.k <| Y.q <| WP.block <| Y.q <| WP.rstill mixed (by kernel_rfl) H ?_
    clear H; intro w hbw11 H
    have hx := hcl cur w H (i + 1) (by omega)
    have hy := hcl cur w H i (by omega)
    rw [hci1, ← hiq] at hx
    rw [hci, ← hiq2] at hy
    refine Y.v (Ev.mvS rfl) <| Y.a rfl <| Y.v (Y.x rfl rfl rfl rfl) <| Y.v (Y.c (by assumption) rfl) ?_
    refine Y.v (Ev.mvS rfl) <| Y.a rfl <| Y.v (Y.s rfl rfl) ?_
    rw [show (((i - q : Nat) : Int) - 1) = ((i - q - 1 : Nat) : Int) by omega]
    refine Y.v (Y.x rfl rfl rfl rfl) <| Y.v (Y.c (by assumption) rfl) ?_
    refine Y.v (Ev.neq rfl rfl) <| OPS.nil_s ?_
    refine WP.cond rfl (fun hc11 => ?_) (fun hc11 => ?_)
    ·refine Y.q ?_
     have hne : zs[i + 1] ≠ zs[i] := by simpa using hc11
     rw [if_neg hne] at hnx
     have hx' := hcl cur w H (i + 1) (by omega)
     rw [hci1, ← hiq] at hx'
     refine Y.r <| Y.v (Ev.mvS rfl) <| Y.a rfl <| Y.v (Ev.mvS rfl) <| Y.a rfl <| Y.v (Y.x rfl rfl rfl rfl) <| Y.v (Y.c (by assumption) rfl) ?_
     refine Y.v (Y.x rfl rfl rfl rfl) <| OPS.store (b := ⟨g, 3, cur.map I ++ sp⟩) 0 (0 + m) rfl rfl rfl (size_run rfl) rfl (cI (n := zs[i + 1]) rfl) rfl rfl H rfl (by simp; omega) ?_
     clear H; intro w H
     simp only [List.set_cons_zero] at H
     rw [Nat.zero_add, putL_pre (enc := I) cur sp m zs[i + 1] (by omega)] at H
     refine Y.z <| Y.r <| Y.a rfl <| Y.v (Y.p rfl rfl) <| Y.b rfl <| Y.z <| Y.r <| Y.a rfl <| Y.v (Y.p rfl rfl) <| Y.b rfl <| Y.z ?_
     first
      | exact ⟨Y.ag, k2 - 1, by omega, m, i + 1, cur, by omega, (by rw [show i + 1 - q = (i - q) + 1 by omega, Int.natCast_add]; rfl), by omega, by omega, rfl, by rw [hnx]; exact hml, hcl2, by rw [hnx]; exact htk, by rw [← List.drop_drop, ← List.drop_drop, hdr], H⟩
      | exact ⟨Y.ag, k2 - 1, by omega, m + 1, i + 1, cur.set m zs[i + 1], by omega, (by rw [show i + 1 - q = (i - q) + 1 by omega, Int.natCast_add]; rfl), by omega, by omega, rfl, by rw [hnx, List.length_append, ← hml]; rfl, by rw [List.length_set]; exact hcl2, by rw [hnx, List.take_succ_eq_append_getElem (by rw [List.length_set]; omega), List.take_set_of_le (Nat.le_refl _), htk, List.getElem_set_self], by rw [List.drop_set_of_lt (by omega), ← List.drop_drop, ← List.drop_drop, hdr], H⟩
    have heq2 : zs[i + 1] = zs[i] := by simpa using hc11
    rw [if_pos heq2, List.append_nil] at hnx
    refine Y.k <| Y.r <| Y.a rfl <| Y.v (Y.p rfl rfl) <| Y.b rfl <| Y.z ?_
    first
     | exact ⟨Y.ag, k2 - 1, by omega, m, i + 1, cur, by omega, (by rw [show i + 1 - q = (i - q) + 1 by omega, Int.natCast_add]; rfl), by omega, by omega, rfl, by rw [hnx]; exact hml, hcl2, by rw [hnx]; exact htk, by rw [← List.drop_drop, ← List.drop_drop, hdr], H⟩
     | exact ⟨Y.ag, k2 - 1, by omega, m + 1, i + 1, cur.set m zs[i + 1], by omega, (by rw [show i + 1 - q = (i - q) + 1 by omega, Int.natCast_add]; rfl), by omega, by omega, rfl, by rw [hnx, List.length_append, ← hml]; rfl, by rw [List.length_set]; exact hcl2, by rw [hnx, List.take_succ_eq_append_getElem (by rw [List.length_set]; omega), List.take_set_of_le (Nat.le_refl _), htk, List.getElem_set_self], by rw [List.drop_set_of_lt (by omega), ← List.drop_drop, ← List.drop_drop, hdr], H⟩
   have hi : i + 1 = zs.length := by simp at hc9; omega
   rw [hi] at htk hml
   refine WP.exit <| XB.hit <| Y.qr <| Y.v (Ev.mvS rfl) <| Y.a rfl <| Y.v (Ev.sliceFrom2 (j := m) (el_run rfl) (size_run rfl) rfl rfl rfl (by omega) (by omega)) <| OPS.clear (b := ⟨g, 3, cur.map I ++ sp⟩) 0 (0 + m * 1) rfl rfl rfl (zs := [I 0]) (el_run rfl) (zero_run rfl) rfl (by decide) rfl rfl (by omega) H rfl (by simp; omega) ?_
   clear H; intro w H
   simp only [List.set_cons_zero] at H
   refine Y.z <| Y.qr <| Y.v (Ev.mvS rfl) <| Y.a rfl <| Y.v (Ev.sliceTo (j := m) (el_run rfl) ⟨1, size_run rfl⟩ rfl rfl rfl (by omega)) <| Y.v (Ev.asS rfl) <| Y.z ?_
   refine WP.ret ⟨_, rfl, ?_⟩
   refine ⟨(putL (cur.map I ++ sp) (0 + m * 1) (mkL (zs.length - m) [I 0])).drop m, by rw [← hml]; rfl, ?_⟩
   have hpt : ∀ (vs cs : List Value) (k : Nat), m ≤ k → (putL cs k vs).take m = cs.take m := fun vs => by
    induction vs with
    | nil => intro cs k _; rfl
    | cons v vs ih =>
     intro cs k hk
     rw [putL, ih _ _ (by omega), List.take_set_of_le (by omega)]
   have hfin : putL (cur.map I ++ sp) (0 + m * 1) (mkL (zs.length - m) [I 0]) = (cmpT zs zs.length).map I ++ (putL (cur.map I ++ sp) (0 + m * 1) (mkL (zs.length - m) [I 0])).drop m := by
    conv => lhs; rw [← List.take_append_drop m (putL (cur.map I ++ sp) (0 + m * 1) (mkL (zs.length - m) [I 0]))]
    rw [hpt _ _ _ (by omega), List.take_append_of_le_length (by simp; omega), ← List.map_take, htk]
   rw [← hfin]
   exact H
  have hne : zs[q + 1] ≠ zs[q] := by simpa using hc6
  refine Y.k <| Y.r <| Y.a rfl <| Y.v (Y.p rfl rfl) <| Y.b rfl <| Y.z ?_
  exact ⟨Y.ag, k - 1, by omega, q + 1, by omega, rfl, (fun j h0 h1 => by
   by_cases hj : j < q + 1
   ·exact hall j h0 hj
   ·obtain rfl : j = q + 1 := by omega
    rw [hgq1, show q + 1 - 1 = q by omega, hgq]; exact hne), H⟩
 refine WP.exit <| XB.hit <| Y.qr <| Y.v (Ev.mvS rfl) <| Y.v (Ev.asS rfl) <| Y.z ?_
 refine WP.ret ⟨_, rfl, ?_⟩
 have hq : q + 1 = zs.length := by simp at hc4; omega
 have hid : cmpT zs zs.length = zs := by rw [cmpT_id (Nat.le_refl _) (fun j h0 h1 => hall j h0 (by omega)), List.take_length]
 rw [hid]
 exact ⟨sp, rfl, H⟩
theorem cmpT_mem {zs : List Int} : ∀ {i : Nat}, i ≤ zs.length → ∀ x, x ∈ cmpT zs i ↔ x ∈ zs.take i
 | 0, _, x => by simp [cmpT]
 | i + 1, hi, x => by
  have ih := cmpT_mem (zs := zs) (i := i) (by omega) x
  rw [cmpT, List.mem_append, ih, List.take_succ_eq_append_getElem (show i < zs.length by omega), List.mem_append, getI (show i < zs.length by omega)]
  by_cases hc : 0 < i ∧ zs[i] = zs.getD (i - 1) 0
  ·rw [if_pos hc]
   simp only [List.not_mem_nil, or_false, List.mem_singleton]
   refine ⟨.inl, fun h => ?_⟩
   rcases h with h | h
   ·exact h
   ·rw [h, hc.2, getI (show i - 1 < zs.length by omega)]
    exact List.mem_take_iff_getElem.2 ⟨i - 1, by omega, rfl⟩
  ·rw [if_neg hc]
theorem cmpT_sorted {zs : List Int} (hs : zs.Pairwise fun x y => x ≤ y) : ∀ {i : Nat}, i ≤ zs.length → (cmpT zs i).Pairwise fun x y => x < y
 | 0, _ => by simp [cmpT]
 | i + 1, hi => by
  rw [cmpT, List.pairwise_append]
  refine ⟨cmpT_sorted hs (by omega), by split <;> simp, fun x hx y hy => ?_⟩
  rw [cmpT_mem (by omega)] at hx
  split at hy
  ·cases hy
  ·rename_i hc
   rw [getI (show i < zs.length by omega)] at hc hy
   rw [List.mem_singleton.1 hy]
   obtain ⟨j, hj, rfl⟩ := List.mem_take_iff_getElem.1 hx
   have hp := List.pairwise_iff_getElem.1 hs
   have h1 : zs[j] ≤ zs[i - 1]'(by omega) := by
    by_cases hji : j = i - 1
    ·subst hji; exact Int.le_refl _
    ·exact hp j (i - 1) (by omega) (by omega) (by omega)
   have h2 : zs[i - 1]'(by omega) ≤ zs[i] := hp (i - 1) i (by omega) (by omega) (by omega)
   rw [getI (show i - 1 < zs.length by omega)] at hc
   have : ¬ zs[i] = zs[i - 1]'(by omega) := fun h => hc ⟨by omega, h⟩
   omega
def srt (l : List Int) : List Int := l.mergeSort fun x y => decide (x ≤ y)
theorem srt_perm (l : List Int) : (srt l).Perm l := List.mergeSort_perm l _
theorem srt_len (l : List Int) : (srt l).length = l.length := (srt_perm l).length_eq
theorem srt_sorted (l : List Int) : (srt l).Pairwise fun x y => x ≤ y := by
 have := List.pairwise_mergeSort (le := fun x y : Int => decide (x ≤ y)) (fun a b c h1 h2 => by simp at *; omega) (fun a b => by simp; omega) l
 exact this.imp fun h => by simpa using h
theorem sortOwn (g : Nat) (zs : List Int) (sp : List Value) (cap : Nat) (w0 : World) (hb : w0.heap[g]? = some (.cells (zs.map I ++ sp).toArray 3 (0, 0))) (hlen : zs.length ≤ 1000000) :
  Calls Tryz.prog 85 #[.slice (some ⟨g, 0, none⟩) zs.length cap] w0 fun e w' => e = .returned (.tuple #[]) ∧ SH w0 [g] w' [⟨g, 3, (srt zs).map I ++ sp⟩] := by
 have hg : g < w0.heap.size := (Array.getElem?_eq_some_iff.1 hb).1
 have hH : Sort.Holds (Value.int .i64) w0 g 0 zs.toArray := holds_of_blockI hb (by simp)
 refine (Tryz.slices_Sort_int g 0 cap zs w0 hH hg (by omega)).mono ?_
 rintro e w' ⟨rfl, n, os, rfl⟩
 have hgr := grownBy_sortedI (w := w0) (g := g) (n := n) (os := os) (srt zs).toArray
 have hh := heap_sortedI (w := w0) (n := n) (os := os) (srt zs).toArray hb
 have hl := srt_len zs
 have hcells : Sort.putCells (Value.int .i64) 0 (srt zs).toArray (zs.map I ++ sp).toArray = ((srt zs).map I ++ sp).toArray := by
  apply Array.ext_getElem?
  intro k
  simp only [Sort.putCells, Array.getElem?_mapIdx, List.getElem?_toArray]
  by_cases hk : k < zs.length
  ·have h1 : k < (zs.map I).length := by simpa using hk
   have h2 : k < ((srt zs).map I).length := by simp; omega
   rw [List.getElem?_append_left h1, List.getElem?_append_left h2, List.getElem?_eq_getElem h1, List.getElem?_eq_getElem h2]
   simp [hl, hk, show k < (srt zs).length by omega]
  ·rw [List.getElem?_append_right (by simp; omega), List.getElem?_append_right (by simp; omega)]
   simp only [List.length_map, hl]
   cases sp[k - zs.length]? with
   | none => rfl
   | some v => simp [hl, hk]
 rw [hcells] at hh
 exact ⟨rfl, hgr.os, hgr.tape, hgr.output, hgr.size, fun k hk hS => hgr.block k hk (by simp at hS; simpa using hS), fun b hb => by
  obtain rfl : b = ⟨g, 3, (srt zs).map I ++ sp⟩ := by simpa using hb
  exact hh, fun b hb => by
  obtain rfl : b = ⟨g, 3, (srt zs).map I ++ sp⟩ := by simpa using hb
  exact .inr (by simp), by simp⟩
theorem ints_it {w : World} {A : Option Addr} {l : List Int} (h : IntsAt w A l) : It.Ints w.heap.size w A l := by
 cases l with
 | nil => exact .inl rfl
 | cons x l =>
  obtain ⟨b, o, rfl, h0⟩ := h 0 (by simp)
  refine .inr ⟨b, o, rfl, World.block_lt_of_cell? w _ h0, fun j hj => ?_⟩
  obtain ⟨b', o', e, hc⟩ := h j hj
  cases e
  rw [List.getElem?_eq_getElem hj]
  exact hc
theorem slAppendSeq (g : Nat) (A : Option Addr) (l : List Int) (cap : Nat) (w0 : World) (hz : IntsAt w0 A l) (hl : l.length ≤ 1000) (hg : w0.heap[g]? = some (.cells #[.slice A l.length cap] 30 (0, 0))) :
  Calls Tryz.prog 99 #[.slice none 0 0, .func (.func 86) #[] #[.pointer (some ⟨g, 0, none⟩)]] w0 fun e w' => ∃ (A' : Option Addr) (c : Nat) (Lo : List Blk), e = .returned (.slice A' l.length c) ∧ OwnS A' c l.length (l.map I) 3 1 Lo ∧ SH w0 [] w' Lo := by
 have hlt : g < w0.heap.size := (Array.getElem?_eq_some_iff.1 hg).1
 refine (callsIn_wide.1 (It.appendSeq 3 (by omega) g A cap l (by unfold maxLen; omega) (by omega) w0 hlt (by simp [World.cell?, hg]) (ints_it hz))).mono ?_
 rintro e w' ⟨v, rfl, hO, _, hB⟩
 rcases hO.2 with ⟨rfl, h0⟩ | ⟨g', c, cur, rfl, h1, h2, h3, h4, h5, h6⟩
 ·have : l = [] := List.eq_nil_of_length_eq_zero h0
  subst this
  exact ⟨none, 0, [], rfl, OwnS.nil, hB.os, hB.tape, hB.output, hB.size, fun k hk _ => hB.block k hk, by simp, by simp, by simp⟩
 ·have hcur : cur.toList = l.map I ++ cur.toList.drop l.length := by
   have := List.take_append_drop l.length cur.toList
   rw [Nat.mul_one] at h6
   rw [h6] at this
   exact this.symm
  refine ⟨some ⟨g', 0, none⟩, c, [⟨g', 3, cur.toList⟩], rfl, ⟨by simp, .inr ⟨g', cur.toList.drop l.length, rfl, by rw [← hcur], h3, h4, by rw [← hcur]; simpa using h5⟩⟩, hB.os, hB.tape, hB.output, hB.size, fun k hk _ => hB.block k hk, fun b hb => ?_, fun b hb => ?_, by simp⟩
  ·obtain rfl : b = ⟨g', 3, cur.toList⟩ := by simpa using hb
   simpa using h2
  ·obtain rfl : b = ⟨g', 3, cur.toList⟩ := by simpa using hb
   exact .inl h1
theorem slCollect (g : Nat) (A : Option Addr) (l : List Int) (cap : Nat) (w0 : World) (hz : IntsAt w0 A l) (hl : l.length ≤ 1000) (hg : w0.heap[g]? = some (.cells #[.slice A l.length cap] 30 (0, 0))) :
  Calls Tryz.prog 84 #[.func (.func 86) #[] #[.pointer (some ⟨g, 0, none⟩)]] w0 fun e w' => ∃ (A' : Option Addr) (c : Nat) (Lo : List Blk), e = .returned (.slice A' l.length c) ∧ OwnS A' c l.length (l.map I) 3 1 Lo ∧ SH w0 [] w' Lo := by
 have H := SH.refl w0
 refine Calls.ofWP Tryz.func84 rfl Tryz.results84 Tryz.ntmps84 rfl <| Y.qr <| Y.v (Ev.asS rfl) <| Y.z <| Y.qr <| Y.v (Ev.mvF rfl) <| OPS.call (d := some 4) rfl rfl rfl (EvC.func (fun_run rfl)) (slAppendSeq g A l cap w0 hz hl hg) ?_
 rintro _ w ⟨A', c, Lo, rfl, hO, Hc⟩
 refine ⟨_, rfl, ?_⟩
 replace H := Hc
 refine Y.v (Ev.asS rfl) <| Y.z ?_
 refine WP.ret ⟨_, rfl, ?_⟩
 exact ⟨A', c, Lo, rfl, hO, H⟩
theorem sortS (A : Option Addr) (c : Nat) (zs : List Int) (Lo : List Blk) (w0 : World) (hl : zs.length ≤ 1000) (hO : OwnS A c zs.length (zs.map I) 3 1 Lo) (H0 : SH w0 (Lo.map (·.g)) w0 Lo) :
  Calls Tryz.prog 85 #[.slice A zs.length c] w0 fun e w' => ∃ Lo', e = .returned (.tuple #[]) ∧ OwnS A c zs.length ((srt zs).map I) 3 1 Lo' ∧ SH w0 (Lo.map (·.g)) w' Lo' := by
 have hsl := srt_len zs
 rcases hO.form with ⟨rfl, h0, rfl, rfl⟩ | ⟨g, sp, rfl, rfl, h1, h2, h3⟩
 ·have : zs = [] := List.eq_nil_of_length_eq_zero h0
  subst this
  refine (Tryz.slices_Sort_int_none none 0 w0).mono ?_
  rintro e w' ⟨rfl, rfl⟩
  exact ⟨[], rfl, ⟨by simp [srt], .inl ⟨rfl, rfl, rfl, rfl⟩⟩, H0⟩
 ·refine (sortOwn g zs sp c w0 (H0.own ⟨g, 3, zs.map I ++ sp⟩ (by simp)) (by omega)).mono ?_
  rintro e w' ⟨rfl, Hc⟩
  exact ⟨_, rfl, ⟨by simp [hsl], .inr ⟨g, sp, rfl, rfl, h1, h2, by simpa [hsl] using h3⟩⟩, Hc⟩
theorem slSorted (g : Nat) (A : Option Addr) (l : List Int) (cap : Nat) (w0 : World) (hz : IntsAt w0 A l) (hl : l.length ≤ 1000) (hg : w0.heap[g]? = some (.cells #[.slice A l.length cap] 30 (0, 0))) :
  Calls Tryz.prog 62 #[.func (.func 86) #[] #[.pointer (some ⟨g, 0, none⟩)]] w0 fun e w' => ∃ (A' : Option Addr) (c : Nat) (Lo : List Blk), e = .returned (.slice A' l.length c) ∧ OwnS A' c l.length ((srt l).map I) 3 1 Lo ∧ SH w0 [] w' Lo := by
 have H := SH.refl w0
 refine Calls.ofWP Tryz.func62 rfl Tryz.results62 Tryz.ntmps62 rfl <| Y.qr <| Y.v (Ev.asS rfl) <| Y.z <| Y.qr <| Y.v (Ev.mvF rfl) <| OPS.call (d := some 5) rfl rfl rfl (EvC.func (fun_run rfl)) (slCollect g A l cap w0 hz hl hg) ?_
 rintro _ w ⟨A', c, Lo, rfl, hO, Hc⟩
 refine ⟨_, rfl, ?_⟩
 replace H := Hc
 clear Hc
 refine Y.v (Ev.asS rfl) <| Y.z <| Y.qr <| Y.v (Ev.mvS rfl) <| OPS.call (d := some 7) rfl rfl rfl (EvC.func (fun_run rfl)) (sortS A' c l Lo w hl hO (H.restart (List.Sublist.refl _))) ?_
 rintro _ w ⟨Lo', rfl, hO', Hc⟩
 refine ⟨_, rfl, ?_⟩
 replace H := SH.call (L1 := []) (Lv := Lo) H Hc
 refine Y.z <| Y.qr <| Y.v (Ev.mvS rfl) <| Y.v (Ev.asS rfl) <| Y.z ?_
 refine WP.ret ⟨_, rfl, ?_⟩
 exact ⟨A', c, Lo', rfl, hO', H⟩
theorem slValues (A : Option Addr) (n cap : Nat) (w0 : World) :
  Calls Tryz.prog 63 #[.slice A n cap] w0 fun e w' => ∃ g, e = .returned (.func (.func 86) #[] #[.pointer (some ⟨g, 0, none⟩)]) ∧ SH w0 [] w' [⟨g, 30, [.slice A n cap]⟩] := by
 have H := SH.refl w0
 refine Calls.ofWP Tryz.func63 rfl Tryz.results63 Tryz.ntmps63 rfl <| Y.qr <| OPS.box rfl rfl rfl rfl (cS rfl) H ?_
 clear H; intro g1 w H
 refine Y.v (Ev.assign) <| Y.z <| Y.qr <| Y.v (Ev.makeFunc) <| Y.v (Ev.asF rfl) <| Y.z ?_
 refine WP.ret ⟨_, rfl, ?_⟩
 exact ⟨_, rfl, H⟩
end Go.Proofs.YthobaaefdehoiaaGreat

/-
 Walks: Check of a question.
-/
set_option linter.all false
namespace Go.Proofs.YthobaaefdehoiaaGreat
open Go Go.W Go.RowKit
theorem cmpT_sub (zs : List Int) : ∀ {i : Nat}, i ≤ zs.length → (cmpT zs i).Sublist (zs.take i)
 | 0, _ => by simp [cmpT]
 | i + 1, h => by
  rw [cmpT, List.take_succ_eq_append_getElem (show i < zs.length by omega)]
  refine List.Sublist.append (cmpT_sub zs (by omega)) ?_
  split
  ·exact List.nil_sublist _
  ·rw [getI (show i < zs.length by omega)]; exact List.Sublist.refl _
theorem cmpT_nodup (l : List Int) : (cmpT (srt l) l.length).length = l.length ↔ l.Nodup := by
 have hl := srt_len l
 constructor
 ·intro h
  have h1 := cmpT_sub (srt l) (i := l.length) (by omega)
  rw [show (srt l).take l.length = srt l by rw [← hl, List.take_length]] at h1
  have h2 := h1.eq_of_length (by omega)
  have h3 := cmpT_sorted (srt_sorted l) (i := l.length) (by omega)
  rw [h2] at h3
  exact (srt_perm l).nodup_iff.1 (List.nodup_iff_pairwise_ne.2 (h3.imp fun h => by omega))
 ·intro h
  have h1 := (srt_perm l).nodup_iff.2 h
  rw [cmpT_id (by omega) (fun j h0 hj => ?_), List.length_take]
  ·omega
  ·rw [getI (show j < (srt l).length by omega), getI (show j - 1 < (srt l).length by omega)]
   intro he
   have := (List.getElem_inj h1).1 he
   omega
theorem compS (A : Option Addr) (c : Nat) (zs : List Int) (Lo : List Blk) (w0 : World) (hl : zs.length ≤ 1000) (hO : OwnS A c zs.length (zs.map I) 3 1 Lo) (H0 : SH w0 (Lo.map (·.g)) w0 Lo) :
  Calls Tryz.prog 64 #[.slice A zs.length c] w0 fun e w' => ∃ Lo', e = .returned (.slice A (cmpT zs zs.length).length c) ∧ SH w0 (Lo.map (·.g)) w' Lo' := by
 rcases hO.form with ⟨rfl, h0, rfl, rfl⟩ | ⟨g, sp, rfl, rfl, h1, h2, h3⟩
 ·have : zs = [] := List.eq_nil_of_length_eq_zero h0
  subst this
  refine (Tryz.slices_Compact_int_empty none 0 w0).mono ?_
  rintro e w' ⟨rfl, rfl⟩
  exact ⟨[], rfl, H0⟩
 ·refine (slCompact g zs sp c w0 H0 (by omega) h1).mono ?_
  rintro e w' ⟨sp', rfl, Hc⟩
  exact ⟨_, rfl, Hc⟩
def askErr (n : Int) (l : List Edg) (ts : List Truck) (ns : List Need) (hd rt : Int) (rn : List Int) : Int :=
 if nightErr n l ts ns hd ≠ 0 then nightErr n l ts ns hd else if routeErr ts ns rt rn ≠ 0 then routeErr ts ns rt rn else if 6 < rn.length then 8 else 0
theorem routeCheckF (i : Int) (g k cc : Nat) (C : Option Addr) (w0 : World) (hk : k ≤ 1000) (hc : w0.cell? ⟨g, 3, none⟩ = some (.slice C k cc)) :
  Calls Tryz.prog 61 #[I i, .pointer (some ⟨g, 0, none⟩)] w0 fun e w' => e = .returned (.bool (outB k i)) ∧ Below w0.heap.size w0 w' := by
 have H := SH.refl w0
 have he : outB k i = (decide (i < 0) || decide ((k : Int) ≤ i)) := by
  unfold outB inB
  rw [Bool.eq_iff_iff]; simp; omega
 rw [he]
 refine Calls.ofWP Tryz.func61 rfl Tryz.results61 Tryz.ntmps61 rfl <| Y.qr <| Y.v (Ev.asB rfl) <| Y.z <| Y.qr <| Y.a rfl <| Y.v (Ev.lss rfl rfl) <| Y.v (Ev.mvB rfl) <| Y.g rfl rfl (fun hg => Y.m rfl) <| Y.g rfl rfl (fun hg => Y.f rfl rfl) <| Y.g rfl rfl (fun hg => Ev.load1 (agg_run rfl) (gvE hg rfl) (H.ld0 (by assumption))) ?_
 refine Y.g rfl rfl (fun hg => Ev.len (el_run rfl) (gvE hg rfl)) <| Y.g rfl rfl (fun hg => Ev.geq (gvE hg rfl) (gvE hg rfl)) <| Y.v (Ev.pickOr rfl rfl rfl) <| Y.v (Ev.asB rfl) <| Y.z ?_
 refine WP.ret ⟨_, rfl, ?_⟩
 exact ⟨rfl, H.below⟩
set_option maxHeartbeats 1000000 in
theorem routeCheck (n hd rt : Int) (A B C R : Option Addr) (l : List Edg) (ts : List Truck) (ns : List Need) (rn : List Int) (ca cb cc cr : Nat) (w0 : World) (hz : EdgsAt w0 A l) (ht : RowsAt 4 truckCells w0 B ts) (hn : RowsAt 2 needCells w0 C ns) (hcc : ns.length ≤ cc) (hr : IntsAt w0 R rn) (hrl : rn.length ≤ 1000) :
  Calls Tryz.prog 49 #[.agg #[I n, .slice A l.length ca, .slice B ts.length cb, .slice C ns.length cc, I hd], I rt, .slice R rn.length cr] w0 fun e w' => e = .returned (I (askErr n l ts ns hd rt rn)) ∧ Below w0.heap.size w0 w' := by
 have H := SH.refl w0
 have hsl := srt_len rn
 refine Calls.ofWP Tryz.func49 rfl Tryz.results49 Tryz.ntmps49 rfl <| Y.qr <| Y.bx (cA rfl) H ?_
 clear H; intro g3 w H
 refine Y.b rfl <| Y.z <| Y.q <| Y.qr <| Y.v (Y.o H 0 rfl rfl) <| OPS.call (d := some 11) rfl rfl rfl (EvC.func (fun_run rfl)) (truckCheck n hd A B C l ts ns ca cb cc w (hz.sh H) (ht.sh H) (hn.sh H) hcc) ?_
 rintro _ w ⟨rfl, hb⟩
 refine ⟨_, rfl, ?_⟩
 replace H := H.toBelow hb; clear hb
 refine Y.b rfl <| Y.z <| Y.qr <| Y.a rfl <| Y.v (Ev.neq rfl rfl) <| Y.z ?_
 refine WP.cond rfl (fun hc2 => ?_) (fun hc2 => ?_)
 ·refine Y.qr <| Y.a rfl <| Y.b rfl <| Y.z ?_
  refine WP.ret ⟨_, rfl, ?_⟩
  have h : nightErr n l ts ns hd ≠ 0 := by simpa using hc2
  exact ⟨by rw [askErr, if_pos h]; rfl, H.below⟩
 have h0 : nightErr n l ts ns hd = 0 := by simpa using hc2
 obtain ⟨m, rfl, hN⟩ := nightOk_of h0
 have htl := hN.tl
 have hnl := hN.nl
 have he0 : askErr m l ts ns hd rt rn = if routeErr ts ns rt rn ≠ 0 then routeErr ts ns rt rn else if 6 < rn.length then 8 else 0 := by rw [askErr, if_neg (by simp [h0])]
 have hout : outB ts.length rt = (decide (rt < 0) || decide ((ts.length : Int) ≤ rt)) := by
  unfold outB inB
  rw [Bool.eq_iff_iff]; simp; omega
 refine Y.k <| Y.qr <| Y.v (Ev.makeFunc) <| Y.v (Ev.asF rfl) <| Y.z <| Y.q <| Y.qr <| Y.a rfl <| Y.v (Ev.lss rfl rfl) <| Y.v (Ev.mvB rfl) <| Y.g rfl rfl (fun hg => Y.m rfl) <| Y.g rfl rfl (fun hg => Y.f rfl rfl) <| Y.y rfl rfl H 0 (fun hg => gvE hg rfl) rfl rfl <| Y.g rfl rfl (fun hg => Ev.len (el_run rfl) (gvE hg rfl)) <| Y.g rfl rfl (fun hg => Ev.geq (gvE hg rfl) (gvE hg rfl)) <| Y.v (Ev.pickOr rfl rfl rfl) <| Y.v (Ev.mvB rfl) <| Y.g rfl rfl (fun hg => Ev.mvS rfl) <| Y.g rfl rfl (fun hg => Ev.mvF rfl) <| OPS.gcall0 (f := 43) (slContainsFuncI R rn cr _ [.pointer (some ⟨g3, 0, none⟩)] (outB ns.length) _ (hr.sh H) (by unfold maxLen; omega) rfl (fun i _ w2 hb => routeCheckF i g3 ns.length cc C w2 (by omega) (cell_below hb (H.ldL 0 rfl 3 rfl)))) (fun _ _ h => h) rfl rfl rfl rfl rfl (fun hg => EvC.conv (EvC.func (fun_run rfl)) (l2 (gvE hg rfl) (gvE hg rfl))) ?_
 intro w hbc; replace H := H.toBelow hbc
 refine Y.v (Ev.pickOr rfl rfl rfl) <| Y.z ?_
 refine WP.cond rfl (fun hc5 => ?_) (fun hc5 => ?_)
 ·refine Y.qr <| Y.b rfl <| Y.z ?_
  refine WP.ret ⟨_, rfl, ?_⟩
  have he : routeErr ts ns rt rn = 7 := by
   unfold routeErr
   rw [if_pos]
   rw [hout]; simpa using hc5
  exact ⟨by rw [he0, he]; rfl, H.below⟩
 have hno : ¬ (outB ts.length rt = true ∨ rn.any (outB ns.length) = true) := by rw [hout]; simpa using hc5
 have he1 : routeErr ts ns rt rn = if twiceB rn = true then 6 else 0 := by
  unfold routeErr
  rw [if_neg hno]
 refine Y.k <| Y.qr <| Y.v (Ev.mvS rfl) <| OPS.call (d := some 31) rfl rfl rfl (EvC.func (fun_run rfl)) (slValues R rn.length cr w) ?_
 rintro _ w ⟨gv, rfl, Hc⟩
 refine ⟨_, rfl, ?_⟩
 replace H := SH.call (L1 := []) (Lv := []) (H.drop (List.nil_sublist _)) Hc
 clear Hc
 refine OPS.call (d := some 32) rfl rfl rfl (EvC.func (fun_run rfl)) (slSorted gv R rn cr w (hr.sh H) hrl (by have := H.own ⟨gv, 30, [.slice R rn.length cr]⟩ (by simp); simpa using this)) ?_
 rintro _ w ⟨S, c, Lo, rfl, hO, Hc⟩
 refine ⟨_, rfl, ?_⟩
 replace H := SH.call (L1 := []) (Lv := []) (H.drop (List.nil_sublist _)) Hc
 clear Hc
 have hcm := cmpT_nodup rn
 rw [← hsl] at hO
 rw [← hsl]
 refine Y.v (Ev.asS rfl) <| Y.z <| Y.q <| Y.qr <| Y.v (Ev.mvS rfl) <| OPS.call (d := some 34) rfl rfl rfl (EvC.func (fun_run rfl)) (compS S c (srt rn) Lo w (by omega) hO (H.restart (List.Sublist.refl _))) ?_
 rintro _ w ⟨Lo', rfl, Hc⟩
 refine ⟨_, rfl, ?_⟩
 replace H := SH.call (L1 := []) (Lv := Lo) H Hc
 refine Y.v (Y.n rfl) <| Y.v (Ev.mvS rfl) <| Y.v (Y.n rfl) <| Y.v (Ev.neq rfl rfl) <| Y.z ?_
 refine WP.cond rfl (fun hc8 => ?_) (fun hc8 => ?_)
 ·refine Y.qr <| Y.b rfl <| Y.z ?_
  refine WP.ret ⟨_, rfl, ?_⟩
  have he : routeErr ts ns rt rn = 6 := by
   rw [he1, if_pos]
   have : (cmpT (srt rn) (srt rn).length).length ≠ rn.length := by simp at hc8; omega
   unfold twiceB
   rw [hsl] at this
   simpa using fun h => this (hcm.2 h)
  exact ⟨by rw [he0, he]; rfl, H.below⟩
 have he : routeErr ts ns rt rn = 0 := by
  rw [he1, if_neg]
  have : (cmpT (srt rn) (srt rn).length).length = rn.length := by simp at hc8; omega
  unfold twiceB
  rw [hsl] at this
  simpa using hcm.1 this
 refine Y.k <| Y.q <| Y.qr <| Y.v (Ev.mvS rfl) <| Y.v (Y.n rfl) <| Y.v (Ev.gtr rfl rfl) <| Y.z ?_
 refine WP.cond rfl (fun hc10 => ?_) (fun hc10 => ?_)
 ·refine Y.qr <| Y.b rfl <| Y.z ?_
  refine WP.ret ⟨_, rfl, ?_⟩
  exact ⟨by rw [he0, he, if_neg (by simp), if_pos (by simp at hc10; omega)]; rfl, H.below⟩
 refine Y.k <| Y.qr <| Y.b rfl <| Y.z ?_
 refine WP.ret ⟨_, rfl, ?_⟩
 exact ⟨by rw [he0, he, if_neg (by simp), if_neg (by simp at hc10; omega)]; rfl, H.below⟩
end Go.Proofs.YthobaaefdehoiaaGreat

/-
 Lists of rows as sources of append; permutations of blocks by counting.
-/
set_option linter.all false
namespace Go.W
open Go.RowKit
open Classical in
theorem sumCount {α : Type} (l : List α) (x : α) : (l.map fun a => if a = x then 1 else 0).sum = l.count x := by
 induction l with
 | nil => rfl
 | cons a l ih =>
  rw [List.map_cons, List.sum_cons, ih, List.count_cons]
  by_cases h : a = x <;> simp [h] <;> omega
open Classical in
theorem permBy {α : Type} {l l' : List α} (h : ∀ f : α → Nat, (l.map f).sum = (l'.map f).sum) : l.Perm l' :=
 List.perm_iff_count.2 fun x => by rw [← sumCount, ← sumCount]; exact h _
theorem OwnS.mt {g el sz : Nat} : OwnS (some ⟨g, 0, none⟩) 0 0 [] el sz [⟨g, el, []⟩] := ⟨by simp, .inr ⟨g, [], rfl, rfl, Nat.le_refl _, by unfold maxLen; omega, by simp⟩⟩
class Sb (L' L : List Blk) : Prop where
 out : L'.Sublist L
instance (L : List Blk) : Sb L L := ⟨List.Sublist.refl _⟩
instance (L M N : List Blk) [h : Sb L N] : Sb L (M ++ N) := ⟨h.out.trans (List.sublist_append_right _ _)⟩
instance (L M N : List Blk) [h : Sb L M] : Sb L (M ++ N) := ⟨h.out.trans (List.sublist_append_left _ _)⟩
instance (L M : List Blk) (b : Blk) [h : Sb L M] : Sb L (b :: M) := ⟨h.out.cons b⟩
end Go.W

/-
 Walks: comparisons, a copy of a list, how much is moved.
-/
set_option linter.all false
namespace Go.Proofs.YthobaaefdehoiaaGreat
open Go Go.W Go.RowKit
def cmpI (a b : Int) : Int := if a < b then -1 else if b < a then 1 else 0
theorem cmpCompare (a b : Int) (w0 : World) : Calls Tryz.prog 69 #[I a, I b] w0 fun e w' => e = .returned (I (cmpI a b)) ∧ Below w0.heap.size w0 w' := by
 have H := SH.refl w0
 refine Calls.ofWP Tryz.func69 rfl Tryz.results69 Tryz.ntmps69 rfl <| Y.qr <| Y.b rfl <| Y.z <| Y.qr <| Y.a rfl <| OPS.call (d := some 8) rfl rfl rfl (EvC.func (fun_run rfl)) (cmpNaN a _) ?_
 rintro _ w ⟨rfl, hb⟩
 refine ⟨_, rfl, ?_⟩
 replace H := H.toBelow hb; clear hb
 refine Y.v (Ev.asB rfl) <| Y.z <| Y.qr <| Y.a rfl <| OPS.call (d := some 10) rfl rfl rfl (EvC.func (fun_run rfl)) (cmpNaN b _) ?_
 rintro _ w ⟨rfl, hb⟩
 refine ⟨_, rfl, ?_⟩
 replace H := H.toBelow hb; clear hb
 refine Y.v (Ev.asB rfl) <| Y.z <| Y.q <| Y.qr <| Y.v (Ev.mvB rfl) <| Y.z ?_
 refine WP.cond rfl (fun hc3 => ?_) (fun hc3 => ?_)
 ·refine Y.q <| Y.qr <| Y.v (Ev.mvB rfl) <| Y.z ?_
  refine WP.cond rfl (fun hc4 => ?_) (fun hc4 => ?_)
  ·refine Y.qr <| Y.b rfl <| Y.z ?_
   refine WP.ret ⟨_, rfl, ?_⟩
   cases hc3
  refine Y.k <| Y.qr <| Y.b rfl <| Y.z ?_
  refine WP.ret ⟨_, rfl, ?_⟩
  cases hc3
 refine Y.k <| Y.q <| Y.qr <| Y.v (Ev.mvB rfl) <| Y.z ?_
 refine WP.cond rfl (fun hc7 => ?_) (fun hc7 => ?_)
 ·refine Y.qr <| Y.b rfl <| Y.z ?_
  refine WP.ret ⟨_, rfl, ?_⟩
  cases hc7
 refine Y.k <| Y.q <| Y.qr <| Y.a rfl <| Y.a rfl <| Y.v (Ev.lss rfl rfl) <| Y.z ?_
 refine WP.cond rfl (fun hc9 => ?_) (fun hc9 => ?_)
 ·refine Y.qr <| Y.b rfl <| Y.z ?_
  refine WP.ret ⟨_, rfl, ?_⟩
  have h : a < b := by simpa using hc9
  exact ⟨by rw [cmpI, if_pos h]; rfl, H.below⟩
 refine Y.k <| Y.q <| Y.qr <| Y.a rfl <| Y.a rfl <| Y.v (Ev.gtr rfl rfl) <| Y.z ?_
 refine WP.cond rfl (fun hc11 => ?_) (fun hc11 => ?_)
 ·refine Y.qr <| Y.b rfl <| Y.z ?_
  refine WP.ret ⟨_, rfl, ?_⟩
  have h : ¬ a < b := by simpa using hc9
  have h2 : b < a := by simpa using hc11
  exact ⟨by rw [cmpI, if_neg h, if_pos h2]; rfl, H.below⟩
 refine Y.k <| Y.qr <| Y.b rfl <| Y.z ?_
 refine WP.ret ⟨_, rfl, ?_⟩
 have h : ¬ a < b := by simpa using hc9
 have h2 : ¬ b < a := by simpa using hc11
 exact ⟨by rw [cmpI, if_neg h, if_neg h2]; rfl, H.below⟩
def orI : List Int → Int
 | [] => 0
 | x :: l => if x ≠ 0 then x else orI l
theorem orI_drop {l : List Int} : ∀ {j : Nat}, j ≤ l.length → (∀ i (h : i < l.length), i < j → l[i] = 0) → orI l = orI (l.drop j)
 | 0, _, _ => by simp
 | j + 1, hj, h => by
  rw [orI_drop (j := j) (by omega) (fun i h1 h2 => h i h1 (by omega)), List.drop_eq_getElem_cons (show j < l.length by omega), orI, if_neg (by simpa using h j (by omega) (by omega))]
theorem cmpOr (A : Option Addr) (l : List Int) (cap : Nat) (w0 : World) (hz : IntsAt w0 A l) (hl : l.length ≤ 1000) :
  Calls Tryz.prog 68 #[.slice A l.length cap] w0 fun e w' => e = .returned (I (orI l)) ∧ Below w0.heap.size w0 w' := by
 have H := SH.refl w0
 refine Calls.ofWP Tryz.func68 rfl Tryz.results68 Tryz.ntmps68 rfl <| Y.qr <| Y.b rfl <| Y.z <| Y.qr <| Y.b rfl <| Y.z <| Y.q <| Y.qr <| Y.v (Ev.mvS rfl) <| Y.v (Y.n rfl) <| Y.a rfl <| Y.z <| WP.block <| WP.loop [2, 5, 8, 9, 10, 11, 12, 13, 14, 15, 16] (fun k e w' => ∃ (j : Nat), j + k = l.length ∧ e 8 = I j ∧ (∀ i (h : i < l.length), i < j → l[i] = 0) ∧ SH w0 [] w' []) (l.length) (⟨0, by omega, rfl, fun _ _ _ => by omega, H⟩) ?_
 clear H
 rintro k u w ⟨j, hk, h8, hall, H⟩
 refine WP.know (t := 8) h8 <| Y.qr <| Y.v (Ev.lss rfl rfl) <| Y.z <| Y.q ?_
 refine WP.cond rfl (fun hc3 => ?_) (fun hc3 => ?_)
 ·have hlt : j < l.length := by simpa using hc3
  obtain ⟨b, o, rfl, hx⟩ := hz j hlt
  refine Y.k <| Y.q <| WP.block <| Y.qr <| Y.v (Y.x rfl rfl rfl rfl) <| Y.v (Y.c (H.ld0 (by assumption)) rfl) ?_
  refine Y.b rfl <| Y.z <| Y.qr <| Y.a rfl <| Y.a rfl <| Y.v (Ev.neq rfl rfl) <| Y.z ?_
  refine WP.cond rfl (fun hc5 => ?_) (fun hc5 => ?_)
  ·refine Y.qr <| Y.a rfl <| Y.b rfl <| Y.z ?_
   refine WP.ret ⟨_, rfl, ?_⟩
   have hne : l[j] ≠ 0 := by simpa using hc5
   exact ⟨by rw [orI_drop (j := j) (by omega) hall, List.drop_eq_getElem_cons hlt, orI, if_pos hne]; rfl, H.below⟩
  have hne : l[j] = 0 := by simpa using hc5
  refine Y.k <| Y.r <| Y.v (Y.p rfl rfl) <| Y.a rfl <| Y.z ?_
  exact ⟨Y.ag, k - 1, by omega, j + 1, by omega, rfl, (fun i h1 h2 => by
   rcases Nat.lt_or_eq_of_le (Nat.le_of_lt_succ h2) with h | rfl
   ·exact hall i h1 h
   ·exact hne), H⟩
 refine WP.exit <| XB.hit <| Y.qr <| Y.a rfl <| Y.b rfl <| Y.z ?_
 refine WP.ret ⟨_, rfl, ?_⟩
 have hj : j = l.length := by simp at hc3; omega
 exact ⟨by rw [orI_drop (j := j) (by omega) hall, hj, List.drop_length]; rfl, H.below⟩
def cmpLs : List Int → List Int → Int
 | [], [] => 0
 | [], _ :: _ => -1
 | _ :: _, [] => 1
 | x :: a, y :: b => if cmpI x y ≠ 0 then cmpI x y else cmpLs a b
theorem cmpLs_neg : ∀ (a b : List Int), cmpLs a b < 0 ↔ lexB a b = true
 | [], [] => by simp [cmpLs, lexB]
 | [], _ :: _ => by simp [cmpLs, lexB]
 | _ :: _, [] => by simp [cmpLs, lexB]
 | x :: a, y :: b => by
  have ih := cmpLs_neg a b
  rw [cmpLs, lexB, cmpI]
  by_cases h1 : x < y
  ·simp [h1]
  ·by_cases h2 : y < x
   ·simp [h1, h2]
   ·simp [h1, h2, ih]
theorem cmpLs_drop {a b : List Int} : ∀ {j : Nat}, j ≤ a.length → j ≤ b.length → (∀ i (h : i < a.length) (h2 : i < b.length), i < j → a[i] = b[i]) → cmpLs a b = cmpLs (a.drop j) (b.drop j)
 | 0, _, _, _ => by simp
 | j + 1, h1, h2, h => by
  rw [cmpLs_drop (j := j) (by omega) (by omega) (fun i q1 q2 q3 => h i q1 q2 (by omega)), List.drop_eq_getElem_cons (show j < a.length by omega), List.drop_eq_getElem_cons (show j < b.length by omega), cmpLs, h j (by omega) (by omega) (by omega), if_neg (by simp [cmpI])]
theorem slCompare (A B : Option Addr) (a b : List Int) (c1 c2 : Nat) (w0 : World) (ha : IntsAt w0 A a) (hb : IntsAt w0 B b) (hl : a.length ≤ 1000) (hl2 : b.length ≤ 1000) :
  Calls Tryz.prog 70 #[.slice A a.length c1, .slice B b.length c2] w0 fun e w' => e = .returned (I (cmpLs a b)) ∧ Below w0.heap.size w0 w' := by
 have H := SH.refl w0
 refine Calls.ofWP Tryz.func70 rfl Tryz.results70 Tryz.ntmps70 rfl <| Y.qr <| Y.b rfl <| Y.z <| Y.q <| Y.qr <| Y.v (Ev.mvS rfl) <| Y.v (Y.n rfl) <| Y.a rfl <| Y.z <| WP.block <| WP.loop [4, 5, 6, 7, 8, 11, 12, 13, 14, 15, 16, 17, 18, 19, 20, 21, 22, 23, 24, 25, 26, 27, 28, 29, 30] (fun k e w' => ∃ (j : Nat), j + k = a.length ∧ e 11 = I j ∧ j ≤ b.length ∧ (∀ i (h : i < a.length) (h2 : i < b.length), i < j → a[i] = b[i]) ∧ SH w0 [] w' []) (a.length) (⟨0, by omega, rfl, by omega, fun _ _ _ _ => by omega, H⟩) ?_
 clear H
 rintro k u w ⟨j, hk, h11, hjb, hall, H⟩
 refine WP.know (t := 11) h11 <| Y.qr <| Y.v (Ev.lss rfl rfl) <| Y.z <| Y.q ?_
 refine WP.cond rfl (fun hc2 => ?_) (fun hc2 => ?_)
 ·have hlt : j < a.length := by simpa using hc2
  obtain ⟨b1, o1, rfl, hx⟩ := ha j hlt
  refine Y.k <| Y.q <| WP.block <| Y.qr <| Y.a rfl <| Y.v (Y.x rfl rfl rfl rfl) <| Y.v (Y.c (H.ld0 (by assumption)) rfl) ?_
  refine Y.b rfl <| Y.b rfl <| Y.z <| Y.q <| Y.qr <| Y.a rfl <| Y.v (Ev.mvS rfl) <| Y.v (Y.n rfl) <| Y.v (Ev.geq rfl rfl) <| Y.z ?_
  refine WP.cond rfl (fun hc4 => ?_) (fun hc4 => ?_)
  ·refine Y.qr <| Y.b rfl <| Y.z ?_
   refine WP.ret ⟨_, rfl, ?_⟩
   have h : ¬ j < b.length := by simpa using hc4
   exact ⟨by rw [cmpLs_drop (j := j) (by omega) (by omega) hall, List.drop_eq_getElem_cons hlt, List.drop_eq_nil_of_le (show b.length ≤ j by omega)]; rfl, H.below⟩
  have hlt2 : j < b.length := by simpa using hc4
  obtain ⟨b2, o2, rfl, hy⟩ := hb j hlt2
  refine Y.k <| Y.qr <| Y.v (Ev.mvS rfl) <| Y.a rfl <| Y.v (Y.x rfl rfl rfl rfl) <| Y.v (Y.c (H.ld0 (by assumption)) rfl) ?_
  refine Y.b rfl <| Y.z <| Y.qr <| Y.a rfl <| Y.a rfl <| OPS.call (d := some 26) rfl rfl rfl (EvC.func (fun_run rfl)) (cmpCompare a[j] b[j] _) ?_
  rintro _ w ⟨rfl, hb⟩
  refine ⟨_, rfl, ?_⟩
  replace H := H.toBelow hb; clear hb
  refine Y.b rfl <| Y.z <| Y.qr <| Y.a rfl <| Y.v (Ev.neq rfl rfl) <| Y.z ?_
  refine WP.cond rfl (fun hc8 => ?_) (fun hc8 => ?_)
  ·refine Y.qr <| Y.a rfl <| Y.b rfl <| Y.z ?_
   refine WP.ret ⟨_, rfl, ?_⟩
   have hne : cmpI a[j] b[j] ≠ 0 := by simpa using hc8
   exact ⟨by rw [cmpLs_drop (j := j) (by omega) (by omega) hall, List.drop_eq_getElem_cons hlt, List.drop_eq_getElem_cons hlt2, cmpLs, if_pos hne]; rfl, H.below⟩
  have hne : cmpI a[j] b[j] = 0 := by simpa using hc8
  have heq : a[j] = b[j] := by
   unfold cmpI at hne
   split at hne
   ·cases hne
   ·split at hne
    ·cases hne
    ·omega
  refine Y.k <| Y.r <| Y.v (Y.p rfl rfl) <| Y.a rfl <| Y.z ?_
  exact ⟨Y.ag, k - 1, by omega, j + 1, by omega, rfl, by omega, (fun i h1 h2 h3 => by
   rcases Nat.lt_or_eq_of_le (Nat.le_of_lt_succ h3) with h | rfl
   ·exact hall i h1 h2 h
   ·exact heq), H⟩
 have hj : j = a.length := by simp at hc2; omega
 refine WP.exit <| XB.hit <| Y.q <| Y.qr <| Y.v (Ev.mvS rfl) <| Y.v (Y.n rfl) <| Y.v (Ev.mvS rfl) <| Y.v (Y.n rfl) <| Y.v (Ev.lss rfl rfl) <| Y.z ?_
 refine WP.cond rfl (fun hc11 => ?_) (fun hc11 => ?_)
 ·refine Y.qr <| Y.b rfl <| Y.z ?_
  refine WP.ret ⟨_, rfl, ?_⟩
  have h : a.length < b.length := by simpa using hc11
  exact ⟨by rw [cmpLs_drop (j := j) (by omega) (by omega) hall, hj, List.drop_length, List.drop_eq_getElem_cons h]; rfl, H.below⟩
 refine Y.k <| Y.qr <| Y.b rfl <| Y.z ?_
 refine WP.ret ⟨_, rfl, ?_⟩
 have h : ¬ a.length < b.length := by simpa using hc11
 exact ⟨by rw [cmpLs_drop (j := j) (by omega) (by omega) hall, hj, List.drop_length, List.drop_eq_nil_of_le (show b.length ≤ a.length by omega)]; rfl, H.below⟩
end Go.Proofs.YthobaaefdehoiaaGreat

/-
 Walks: a copy of a list, how much is moved, the better one.
-/
set_option linter.all false
namespace Go.Proofs.YthobaaefdehoiaaGreat
open Go Go.W Go.RowKit
theorem onesCellsAt {w : World} {b : Nat} : ∀ (l : List Int) (o : Nat), IntsAt w (some ⟨b, o, none⟩) l → cellsAt w b o (l.map I)
 | [], _, _ => trivial
 | x :: l, o, h => by
  obtain ⟨b0, o0, e, h1⟩ := h 0 (by simp)
  cases e
  refine ⟨by simpa using h1, onesCellsAt l (o + 1) fun k hk => ?_⟩
  obtain ⟨b1, o1, e1, h2⟩ := h (k + 1) (by simpa using hk)
  cases e1
  exact ⟨_, _, rfl, by rw [show o + 1 + k = o + (k + 1) by omega]; simpa using h2⟩
theorem intsFrom {w : World} {A : Option Addr} {l : List Int} (h : IntsAt w A l) : l.length = 0 ∨ ∃ b o, A = some ⟨b, o, none⟩ ∧ cellsAt w b o (l.map I) := by
 rcases Nat.eq_zero_or_pos l.length with h0 | h0
 ·exact .inl h0
 ·obtain ⟨b, o, rfl, _⟩ := h 0 h0
  exact .inr ⟨b, o, rfl, onesCellsAt l o h⟩
theorem intsOne (l : List Int) : ((l.map I).all (·.oneCell')) = true := by rw [List.all_eq_true]; intro v hv; obtain ⟨x, _, rfl⟩ := List.mem_map.1 hv; rfl
theorem slClone (A : Option Addr) (l : List Int) (cap : Nat) (w0 : World) (hz : IntsAt w0 A l) (hl : l.length ≤ 1000) (hA : A = none → cap = 0) :
  Calls Tryz.prog 34 #[.slice A l.length cap] w0 fun e w' => ∃ (A' : Option Addr) (c : Nat) (Lo : List Blk), e = .returned (.slice A' l.length c) ∧ OwnS A' c l.length (l.map I) 3 1 Lo ∧ SH w0 [] w' Lo := by
 have H := SH.refl w0
 have hn : A = none → l = [] := fun h => by
  cases l with
  | nil => rfl
  | cons x l => obtain ⟨b, o, e, _⟩ := hz 0 (by simp); rw [h] at e; cases e
 refine Calls.ofWP Tryz.func34 rfl Tryz.results34 Tryz.ntmps34 rfl <| Y.qr <| Y.v (Ev.asS rfl) <| Y.z <| Y.q <| Y.qr <| Y.v (Ev.mvS rfl) <| Y.v (Ev.eqlSn Tryz.runUnderlying30 rfl rfl) <| Y.z ?_
 refine WP.cond rfl (fun hc1 => ?_) (fun hc1 => ?_)
 ·refine Y.qr <| Y.v (Ev.asS rfl) <| Y.z ?_
  refine WP.ret ⟨_, rfl, ?_⟩
  have h : A = none := by simpa using hc1
  obtain rfl := hn h
  obtain rfl := hA h
  exact ⟨none, 0, [], rfl, OwnS.nil, H⟩
 refine Y.k <| Y.qr <| OPS.buildSlice rfl rfl rfl rfl (bsl_30_0_ (e := fun _ => .int .i64 0)) H ?_
 clear H; intro g5 w H
 refine Y.v (Ev.mvS rfl) <| OPS.appendE (m := l.length) (news := l.map I) (R := []) rfl rfl rfl rfl rfl (sl_run rfl) rfl rfl OwnS.mt (by simp) (intsFrom (hz.sh H)) (intsOne l) (by omega) (by unfold maxLen; omega) H (List.Perm.refl _) ?_
 clear H; intro A' c Lo w hO H
 refine Y.v (Ev.asS rfl) <| Y.z ?_
 refine WP.ret ⟨_, rfl, ?_⟩
 rw [Nat.zero_add] at hO
 exact ⟨A', c, Lo, by rw [Nat.zero_add]; rfl, by simpa using hO, by simpa using H⟩
def mvL (ns : List Need) (rn : List Int) : Int := (rn.map fun i => absI (needAt ns i).move).sum
theorem mvL_snoc (ns : List Need) (rn : List Int) (i : Int) : mvL ns (rn ++ [i]) = mvL ns rn + absI (needAt ns i).move := by unfold mvL; rw [List.map_append, List.sum_append]; simp
theorem mvL_bd {ns : List Need} (hm : ∀ x ∈ ns, -32 ≤ x.move ∧ x.move ≤ 32) : ∀ (rn : List Int), 0 ≤ mvL ns rn ∧ mvL ns rn ≤ 32 * rn.length
 | [] => by simp [mvL]
 | i :: rn => by
  have ih := mvL_bd hm rn
  have h1 : -32 ≤ (needAt ns i).move ∧ (needAt ns i).move ≤ 32 := by
   unfold needAt
   by_cases h : i.toNat < ns.length
   ·have := hm ns[i.toNat] (List.getElem_mem h)
    rw [List.getD_eq_getElem?_getD, List.getElem?_eq_getElem h]; exact this
   ·rw [List.getD_eq_getElem?_getD, List.getElem?_eq_none (by omega)]; exact ⟨by decide, by decide⟩
  have h2 : mvL ns (i :: rn) = absI (needAt ns i).move + mvL ns rn := by unfold mvL; simp
  rw [h2]
  have h3 : 0 ≤ absI (needAt ns i).move ∧ absI (needAt ns i).move ≤ 32 := by unfold absI; omega
  simp only [List.length_cons]
  omega
theorem needAt_eq {ns : List Need} {i : Nat} (h : i < ns.length) : needAt ns (i : Int) = ns[i] := by unfold needAt; simp [h]
set_option maxHeartbeats 1000000 in
theorem routeMoved (n hd : Int) (A B C R : Option Addr) (l : List Edg) (ts : List Truck) (ns : List Need) (rn : List Int) (ca cb cc cr : Nat) (w0 : World) (hn : RowsAt 2 needCells w0 C ns) (hm : ∀ x ∈ ns, -32 ≤ x.move ∧ x.move ≤ 32) (hr : IntsAt w0 R rn) (hrl : rn.length ≤ 1000) (hin : ∀ i ∈ rn, 0 ≤ i ∧ i < ns.length) :
  Calls Tryz.prog 67 #[.agg #[I n, .slice A l.length ca, .slice B ts.length cb, .slice C ns.length cc, I hd], .slice R rn.length cr] w0 fun e w' => e = .returned (I (mvL ns rn)) ∧ Below w0.heap.size w0 w' := by
 have H := SH.refl w0
 refine Calls.ofWP Tryz.func67 rfl Tryz.results67 Tryz.ntmps67 rfl <| Y.qr <| Y.bx (cA rfl) H ?_
 clear H; intro g2 w H
 refine Y.b rfl <| Y.z <| Y.qr <| Y.b rfl <| Y.z <| Y.q <| Y.qr <| Y.v (Ev.mvS rfl) <| Y.v (Y.n rfl) <| Y.a rfl <| Y.z <| WP.block <| WP.loop [5, 7, 10, 11, 12, 13, 14, 15, 16, 17, 18, 19, 20, 21, 22, 23, 24, 25, 26, 27, 28, 29, 30] (fun k e w' => ∃ (j : Nat), j + k = rn.length ∧ e 10 = I j ∧ e 5 = I (mvL ns (rn.take j)) ∧ SH w0 [] w' [⟨g2, 28, [I n, .slice A l.length ca, .slice B ts.length cb, .slice C ns.length cc, I hd]⟩]) (rn.length) (⟨0, by omega, rfl, rfl, H⟩) ?_
 clear H
 rintro k u w ⟨j, hk, h10, h5, H⟩
 refine WP.know (t := 10) h10 (WP.know (t := 5) h5 ?_)
 refine Y.qr <| Y.v (Ev.lss rfl rfl) <| Y.z <| Y.q ?_
 refine WP.cond rfl (fun hc3 => ?_) (fun hc3 => ?_)
 ·have hlt : j < rn.length := by simpa using hc3
  obtain ⟨br, orr, rfl, hx⟩ := hr j hlt
  have hir := hin rn[j] (List.getElem_mem hlt)
  obtain ⟨i, hi⟩ := Int.eq_ofNat_of_zero_le hir.1
  rw [hi] at hx
  have hil : i < ns.length := by omega
  obtain ⟨bn, on, rfl, hy⟩ := hn i hil
  have hmv := hm ns[i] (List.getElem_mem hil)
  have hbd := mvL_bd hm (rn.take j)
  have htl : (rn.take j).length = j := by rw [List.length_take]; omega
  have hsn := mvL_snoc ns (rn.take j) rn[j]
  rw [← List.take_succ_eq_append_getElem hlt, hi, needAt_eq hil] at hsn
  generalize ns[i] = x at *
  refine Y.k <| Y.q <| WP.block <| Y.qr <| Y.v (Y.x rfl rfl rfl rfl) <| Y.v (Y.c (H.ld0 (by assumption)) rfl) ?_
  refine Y.b rfl <| Y.z <| WP.rstill mixed (by kernel_rfl) H ?_
  clear H; intro w hbw5 H
  obtain ⟨q1, q2, _⟩ := cellsAt_sh H hy
  refine Y.a rfl <| Y.fa rfl rfl <| Y.j H 0 rfl rfl rfl <| Y.a rfl <| Y.v (Y.X rfl rfl rfl rfl rfl) <| Y.fa rfl rfl <| Y.v (Y.c (by assumption) rfl) ?_
  refine Y.fa rfl rfl <| Y.j H 0 rfl rfl rfl <| Y.a rfl <| Y.v (Y.X rfl rfl rfl rfl rfl) <| Y.fa rfl rfl <| Y.v (Y.c (by assumption) rfl) ?_
  refine Y.v (Ev.neg rfl (by unfold fits; omega)) <| Y.v (Ev.max rfl rfl) <| Y.v (Y.p rfl rfl) <| Y.b rfl <| OPS.nil_s <| Y.r <| Y.v (Y.p rfl rfl) <| Y.a rfl <| Y.z ?_
  exact ⟨Y.ag, k - 1, by omega, j + 1, by omega, rfl, (by rw [hsn]; rfl), H⟩
 refine WP.exit <| XB.hit <| Y.qr <| Y.a rfl <| Y.b rfl <| Y.z ?_
 refine WP.ret ⟨_, rfl, ?_⟩
 have hj : j = rn.length := by simp at hc3; omega
 rw [hj, List.take_length]
 exact ⟨rfl, H.below⟩
end Go.Proofs.YthobaaefdehoiaaGreat

/-
 Walks: the better of two routes.
-/
set_option linter.all false
namespace Go.Proofs.YthobaaefdehoiaaGreat
open Go Go.W Go.RowKit
def fndCells (A : Option Addr) (n c : Nat) (m d : Int) (ok : Bool) : List Value := [.slice A n c, I m, I d, .bool ok]
theorem GB.u {want : Bool} : GB undef want false := ⟨by simp [undef]⟩
theorem betterN (v1 v2 v3 : Value) (A : Option Addr) (n c : Nat) (m d : Int) (x1 : Option Addr) (x2 x3 : Nat) (x4 x5 : Int) (w0 : World) :
  Calls Tryz.prog 51 #[.agg (fndCells x1 x2 x3 x4 x5 false).toArray, .agg (fndCells A n c m d true).toArray] w0 fun e w' => e = .returned (.agg (fndCells A n c m d true).toArray) ∧ Below w0.heap.size w0 w' := by
 have H := SH.refl w0
 unfold fndCells
 refine Calls.ofWPc Tryz.func51 rfl Tryz.results51 Tryz.ntmps51 rfl <| Y.qr <| Y.bx (cA rfl) H ?_
 clear H; intro g2 w H
 refine Y.bx (cA rfl) H ?_
 clear H; intro g3 w H
 refine Y.al H rfl rfl ?_
 clear H; intro g4 w H
 refine Y.z <| Y.q <| Y.q <| WP.rquiet mixed (by kernel_rfl) H ?_
 clear H; intro w hbw1 H
 refine Y.fa rfl rfl <| Y.j H 2 rfl rfl rfl <| Y.v (Ev.not rfl) <| Y.v (Ev.mvB rfl) <| OPS.gnoN rfl rfl (GB.b (b := true) rfl) rfl rfl <| OPS.gnoN rfl rfl (GB.b (b := true) rfl) rfl rfl <| OPS.gnoN rfl rfl (GB.b (b := true) rfl) rfl rfl <| OPS.gnoN rfl rfl GB.u rfl rfl <| OPS.gnoN rfl rfl GB.u rfl rfl <| OPS.gnoN rfl rfl GB.u rfl rfl <| OPS.gnoN rfl rfl GB.u rfl rfl <| OPS.gnoN rfl rfl GB.u rfl rfl <| OPS.gnoN rfl rfl GB.u rfl rfl <| OPS.gnoN rfl rfl GB.u rfl rfl <| OPS.gnoN rfl rfl GB.u rfl rfl <| OPS.gnoN rfl rfl GB.u rfl rfl <| OPS.gnoN rfl rfl GB.u rfl rfl <| OPS.gnoN rfl rfl GB.u rfl rfl <| OPS.gnoN rfl rfl GB.u rfl rfl <| OPS.gnoN rfl rfl GB.u rfl rfl <| OPS.gnoN rfl rfl GB.u rfl rfl <| OPS.gnoN rfl rfl GB.u rfl rfl <| OPS.gnoN rfl rfl GB.u rfl rfl <| OPS.gnoN rfl rfl GB.u rfl rfl <| OPS.gnoN rfl rfl GB.u rfl rfl <| OPS.gnoN rfl rfl (GB.b (b := true) rfl) rfl rfl <| Y.v (Ev.pick (b := true) rfl) <| OPS.nilq H ?_
 clear H; intro w hbx1 H
 refine WP.cond rfl (fun hc1 => ?_) (fun hc1 => ?_)
 ·refine Y.qr <| Y.v (Y.o H 1 rfl rfl) <| Y.ss 0 H rfl (cA rfl) rfl ?_
  clear H; intro w H
  refine Y.z ?_
  refine WP.ret ⟨[_], ⟨(by exact resCellA 0 H rfl (agg_run rfl) (size_run rfl) (by rfl) rfl), trivial⟩, ?_⟩
  exact ⟨rfl, H.below⟩
 refine Y.k <| Y.qr <| Y.v (Y.o H 2 rfl rfl) <| Y.ss 0 H rfl (cA rfl) rfl ?_
 clear H; intro w H
 refine Y.z ?_
 refine WP.ret ⟨[_], ⟨(by exact resCellA 0 H rfl (agg_run rfl) (size_run rfl) (by rfl) rfl), trivial⟩, ?_⟩
 cases hc1
set_option maxHeartbeats 1000000 in
theorem betterY (A : Option Addr) (a : List Int) (ca : Nat) (ma da : Int) (B : Option Addr) (b : List Int) (cb : Nat) (mb db : Int) (w0 : World) (ha : IntsAt w0 A a) (hb : IntsAt w0 B b) (hal : a.length ≤ 1000) (hbl : b.length ≤ 1000) :
  Calls Tryz.prog 51 #[.agg (fndCells A a.length ca ma da true).toArray, .agg (fndCells B b.length cb mb db true).toArray] w0 fun e w' => e = .returned (if orI [cmpI ma mb, cmpI db da, cmpLs b a] < 0 then .agg (fndCells B b.length cb mb db true).toArray else .agg (fndCells A a.length ca ma da true).toArray) ∧ Below w0.heap.size w0 w' := by
 have H := SH.refl w0
 unfold fndCells
 refine Calls.ofWPc Tryz.func51 rfl Tryz.results51 Tryz.ntmps51 rfl <| Y.qr <| Y.bx (cA rfl) H ?_
 clear H; intro g2 w H
 refine Y.bx (cA rfl) H ?_
 clear H; intro g3 w H
 refine Y.al H rfl rfl ?_
 clear H; intro g4 w H
 refine Y.z <| Y.q <| Y.q ?_
 refine WP.rheldC [5, 6, 7, 8, 9, 10, 11, 12, 13, 14, 15, 16, 17, 18, 19, 20, 21, 22, 23, 24, 25, 26, 27, 28, 29, 30, 31] (fun u w' => u 31 = .bool (decide (orI [cmpI ma mb, cmpI db da, cmpLs b a] < 0)) ∧ SH w0 [] w' [⟨g4, 119, [.slice none 0 0, I 0, I 0, .bool false]⟩, ⟨g3, 119, [.slice B b.length cb, I mb, I db, .bool true]⟩, ⟨g2, 119, [.slice A a.length ca, I ma, I da, .bool true]⟩]) mixed H ?_ ?_
 ·clear H; intro w hbw1 H
  refine Y.t 0 H rfl rfl (fun w H => Y.f rfl rfl) <| Y.t 1 H rfl rfl (fun w H => Y.l H 2 rfl rfl rfl) <| Y.t 2 H rfl rfl (fun w H => Ev.not rfl) <| Y.t 3 H rfl rfl (fun w H => Ev.mvB rfl) <| OPH.takeY 4 rfl rfl rfl rfl rfl rfl (by kernel_rfl) (by kernel_rfl) (by kernel_rfl) rfl (H) (fun w H => Ev.fieldAddr (fld_run rfl) rfl) ?_
  refine OPH.takeY 5 rfl rfl rfl rfl rfl rfl (by kernel_rfl) (by kernel_rfl) (by kernel_rfl) rfl (H) (fun w H => Ev.load1 (agg_run rfl) rfl (H.ldL 1 rfl _ rfl)) ?_
  refine OPH.takeY 6 rfl rfl rfl rfl rfl rfl (by kernel_rfl) (by kernel_rfl) (by kernel_rfl) rfl (H) (fun w H => Ev.mvB rfl) ?_
  refine OPH.takeY 7 rfl rfl rfl rfl rfl rfl (by kernel_rfl) (by kernel_rfl) (by kernel_rfl) rfl (H) (fun w H => Ev.fieldAddr (fld_run rfl) rfl) ?_
  refine OPH.takeY 8 rfl rfl rfl rfl rfl rfl (by kernel_rfl) (by kernel_rfl) (by kernel_rfl) rfl (H) (fun w H => Ev.load1 (agg_run rfl) rfl (H.ldL 2 rfl _ rfl)) ?_
  refine OPH.takeY 9 rfl rfl rfl rfl rfl rfl (by kernel_rfl) (by kernel_rfl) (by kernel_rfl) rfl (H) (fun w H => Ev.fieldAddr (fld_run rfl) rfl) ?_
  refine OPH.takeY 10 rfl rfl rfl rfl rfl rfl (by kernel_rfl) (by kernel_rfl) (by kernel_rfl) rfl (H) (fun w H => Ev.load1 (agg_run rfl) rfl (H.ldL 1 rfl _ rfl)) ?_
  refine OPH.takeY 12 rfl rfl rfl rfl rfl rfl (by kernel_rfl) (by kernel_rfl) (by kernel_rfl) rfl (H) (fun w H => Ev.fieldAddr (fld_run rfl) rfl) ?_
  refine OPH.takeY 13 rfl rfl rfl rfl rfl rfl (by kernel_rfl) (by kernel_rfl) (by kernel_rfl) rfl (H) (fun w H => Ev.load1 (agg_run rfl) rfl (H.ldL 1 rfl _ rfl)) ?_
  refine OPH.takeY 14 rfl rfl rfl rfl rfl rfl (by kernel_rfl) (by kernel_rfl) (by kernel_rfl) rfl (H) (fun w H => Ev.fieldAddr (fld_run rfl) rfl) ?_
  refine OPH.takeY 15 rfl rfl rfl rfl rfl rfl (by kernel_rfl) (by kernel_rfl) (by kernel_rfl) rfl (H) (fun w H => Ev.load1 (agg_run rfl) rfl (H.ldL 2 rfl _ rfl)) ?_
  refine OPH.takeY 17 rfl rfl rfl rfl rfl rfl (by kernel_rfl) (by kernel_rfl) (by kernel_rfl) rfl (H) (fun w H => Ev.fieldAddr (fld_run rfl) rfl) ?_
  refine OPH.takeY 18 rfl rfl rfl rfl rfl rfl (by kernel_rfl) (by kernel_rfl) (by kernel_rfl) rfl (H) (fun w H => Ev.load1 (agg_run rfl) rfl (H.ldL 1 rfl _ rfl)) ?_
  refine OPH.takeY 19 rfl rfl rfl rfl rfl rfl (by kernel_rfl) (by kernel_rfl) (by kernel_rfl) rfl (H) (fun w H => Ev.fieldAddr (fld_run rfl) rfl) ?_
  refine OPH.takeY 20 rfl rfl rfl rfl rfl rfl (by kernel_rfl) (by kernel_rfl) (by kernel_rfl) rfl (H) (fun w H => Ev.load1 (agg_run rfl) rfl (H.ldL 2 rfl _ rfl)) ?_
  refine Y.A1 11 rfl rfl <| OPS.gyes rfl rfl rfl rfl <| OPS.call (d := some 16) rfl rfl rfl (EvC.func (fun_run rfl)) (cmpCompare ma mb w) ?_
  rintro _ w ⟨rfl, hb'⟩
  refine ⟨_, rfl, ?_⟩
  replace H := H.toBelow hb'; clear hb'
  refine Y.z <| ⟨(H), ?_⟩
  refine Y.A1 16 rfl rfl <| OPS.gyes rfl rfl rfl rfl <| OPS.call (d := some 21) rfl rfl rfl (EvC.func (fun_run rfl)) (cmpCompare db da w) ?_
  rintro _ w ⟨rfl, hb'⟩
  refine ⟨_, rfl, ?_⟩
  replace H := H.toBelow hb'; clear hb'
  refine Y.z <| ⟨(H), ?_⟩
  refine Y.A1 21 rfl rfl <| OPS.gyes rfl rfl rfl rfl <| OPS.call (d := some 26) rfl rfl rfl (EvC.func (fun_run rfl)) (slCompare B A b a cb ca w (hb.sh H) (ha.sh H) hbl hal) ?_
  rintro _ w ⟨rfl, hb'⟩
  refine ⟨_, rfl, ?_⟩
  replace H := H.toBelow hb'; clear hb'
  refine Y.z <| ⟨(H), ?_⟩
  refine Y.A1 22 rfl rfl <| OPS.gyes rfl rfl rfl rfl <| OPS.buildSlice rfl rfl rfl rfl (bsl_30_3_0_1_2 rfl rfl rfl) H ?_
  clear H; intro g27 w E
  have H := E.drop (List.sublist_cons_self _ _)
  refine Y.z <| ⟨(H), ?_⟩
  refine Y.A1 23 rfl rfl <| OPS.gyes rfl rfl rfl rfl <| OPS.call (d := some 28) rfl rfl rfl (EvC.func (fun_run rfl)) (cmpOr (some ⟨g27, 0, none⟩) [cmpI ma mb, cmpI db da, cmpLs b a] 3 w (OnesAt.own (l := [cmpI ma mb, cmpI db da, cmpLs b a]) E 0 rfl (post := []) rfl) (by simp)) ?_
  rintro _ w ⟨rfl, hb'⟩
  refine ⟨_, rfl, ?_⟩
  replace H := H.toBelow hb'; clear hb'
  refine Y.z <| ⟨(H), ?_⟩
  refine OPH.takeY 24 rfl rfl rfl rfl rfl rfl (by kernel_rfl) (by kernel_rfl) (by kernel_rfl) rfl (H) (fun w H => Ev.lss rfl rfl) ?_
  refine OPH.takeY 25 rfl rfl rfl rfl rfl rfl (by kernel_rfl) (by kernel_rfl) (by kernel_rfl) rfl (H) (fun w H => Ev.pick (b := true) rfl) ?_
  refine Y.t 26 H rfl rfl (fun w H => Ev.pick (b := false) rfl) <| Y.dn ?_
  exact ⟨Y.ag, rfl, H⟩
 clear H
 rintro u w ⟨h31, H⟩
 refine WP.know (t := 31) h31 ?_
 refine WP.cond rfl (fun hc1 => ?_) (fun hc1 => ?_)
 ·refine Y.qr <| Y.v (Y.o H 1 rfl rfl) <| Y.ss 0 H rfl (cA rfl) rfl ?_
  clear H; intro w H
  refine Y.z ?_
  refine WP.ret ⟨[_], ⟨(by exact resCellA 0 H rfl (agg_run rfl) (size_run rfl) (by rfl) rfl), trivial⟩, ?_⟩
  have h : orI [cmpI ma mb, cmpI db da, cmpLs b a] < 0 := by simpa using hc1
  exact ⟨by rw [if_pos h]; rfl, H.below⟩
 refine Y.k <| Y.qr <| Y.v (Y.o H 2 rfl rfl) <| Y.ss 0 H rfl (cA rfl) rfl ?_
 clear H; intro w H
 refine Y.z ?_
 refine WP.ret ⟨[_], ⟨(by exact resCellA 0 H rfl (agg_run rfl) (size_run rfl) (by rfl) rfl), trivial⟩, ?_⟩
 have h : ¬ orI [cmpI ma mb, cmpI db da, cmpLs b a] < 0 := by simpa using hc1
 exact ⟨by rw [if_neg h]; rfl, H.below⟩
end Go.Proofs.YthobaaefdehoiaaGreat

/-
 Walks: Reverse of a part of a list; all orders of a list, in order, for whatever visitor.
-/
set_option linter.all false
namespace Go.Proofs.YthobaaefdehoiaaGreat
open Go Go.W Go.RowKit
theorem revOwn (g : Nat) (pre zs : List Int) (sp : List Value) (cap : Nat) (w0 : World) (hb : w0.heap[g]? = some (.cells ((pre ++ zs).map I ++ sp).toArray 3 (0, 0))) (hlen : zs.length ≤ 1000000) :
  Calls Tryz.prog 87 #[.slice (some ⟨g, pre.length, none⟩) zs.length cap] w0 fun e w' => e = .returned (.tuple #[]) ∧ SH w0 [g] w' [⟨g, 3, (pre ++ zs.reverse).map I ++ sp⟩] := by
 have hg : g < w0.heap.size := (Array.getElem?_eq_some_iff.1 hb).1
 have hH : Sort.Holds (Value.int .i64) w0 g pre.length zs.toArray := fun j hj => by
  have hj' : j < zs.length := by simpa using hj
  refine ⟨?_, by simp [World.frozen?, hb]⟩
  simp only [World.cell?, hb]
  simp only [Option.isSome_none, Bool.false_eq_true, if_false]
  rw [← Array.getElem?_toList]
  simp [hj', List.getElem?_append]
 refine (Tryz.slices_Reverse_int g pre.length cap zs w0 hH (by omega)).mono ?_
 rintro e w' ⟨rfl, n, rfl⟩
 have hcells : Sort.putCells (Value.int .i64) pre.length zs.reverse.toArray ((pre ++ zs).map I ++ sp).toArray = ((pre ++ zs.reverse).map I ++ sp).toArray := by
  apply Array.ext_getElem?
  intro k
  simp only [Sort.putCells, Array.getElem?_mapIdx, List.getElem?_toArray, List.map_append, List.append_assoc]
  by_cases h1 : k < pre.length
  ·rw [List.getElem?_append_left (l₁ := pre.map I) (by simpa using h1), List.getElem?_append_left (l₁ := pre.map I) (by simpa using h1)]
   simp [h1, show ¬ pre.length ≤ k by omega]
  ·rw [List.getElem?_append_right (l₁ := pre.map I) (by simp; omega), List.getElem?_append_right (l₁ := pre.map I) (by simp; omega), List.length_map]
   by_cases h2 : k < pre.length + zs.length
   ·have h3 : k - pre.length < zs.length := by omega
    rw [List.getElem?_append_left (l₁ := zs.map I) (by simpa using h3), List.getElem?_append_left (l₁ := zs.reverse.map I) (by simpa using h3)]
    simp [h2, h3, show pre.length ≤ k by omega]
   ·rw [List.getElem?_append_right (l₁ := zs.map I) (by simp; omega), List.getElem?_append_right (l₁ := zs.reverse.map I) (by simp; omega), List.length_map, List.length_map, List.length_reverse]
    cases sp[k - pre.length - zs.length]? with
    | none => rfl
    | some v => simp [h2]
 have hh : (Sort.putRow (Value.int .i64) (Sort.ahead w0 n) g pre.length zs.reverse.toArray).heap[g]? = some (.cells ((pre ++ zs.reverse).map I ++ sp).toArray 3 (0, 0)) := by
  rw [← hcells]
  simp [Sort.putRow, Sort.mapBlock, Sort.ahead, Array.getElem?_modify, hb, Sort.onCells]
 refine ⟨rfl, rfl, rfl, rfl, by simp [Sort.putRow, Sort.mapBlock, Sort.ahead], fun k hk hS => ?_, fun b hb => ?_, fun b hb => ?_, by simp⟩
 ·have : g ≠ k := fun e => hS (by simp [e])
  simp [Sort.putRow, Sort.mapBlock, Sort.ahead, Array.getElem?_modify, this]
 ·obtain rfl : b = ⟨g, 3, (pre ++ zs.reverse).map I ++ sp⟩ := by simpa using hb
  exact hh
 ·obtain rfl : b = ⟨g, 3, (pre ++ zs.reverse).map I ++ sp⟩ := by simpa using hb
  exact .inr (by simp)
theorem set_ints (l : List Int) (sp : List Value) (i : Nat) (x : Int) (hi : i < l.length) : putL (l.map I ++ sp) (0 + i) [I x] = (l.set i x).map I ++ sp := by
 simp [putL, List.set_append_left _ _ (show i < (l.map I).length by simpa using hi), List.map_set]
set_option maxHeartbeats 4000000 in
theorem routeOrders {σ : Type} (R : σ → List Blk → Prop) (vis : σ → List Int → σ) (F : Nat) (caps : List Value) (wB : World) (hfun : funT F = true) (l : List Int)
  (hvis : ∀ s Lv w A o c, Below wB.heap.size wB w → R s Lv → SH w (Lv.map (·.g)) w Lv → IntsAt w A o → (A = none → c = 0) → o.length ≤ c → o.Perm l →
   Calls Tryz.prog F ([Value.slice A o.length c] ++ caps).toArray w fun e w' => ∃ Lv', e = .returned (.tuple #[]) ∧ R (vis s o) Lv' ∧ SH w (Lv.map (·.g)) w' Lv')
  (A : Option Addr) (cap : Nat) (w0 : World) (hz : IntsAt w0 A l) (hl : l.length ≤ 16) (hnd : l.Nodup) (hrg : ∀ x ∈ l, 0 ≤ x ∧ x < 64)
  (s0 : σ) (Lv0 : List Blk) (hR0 : R s0 Lv0) (H0 : SH w0 (Lv0.map (·.g)) w0 Lv0) (hB : Below wB.heap.size wB w0) (hLv : ∀ g ∈ Lv0.map (·.g), wB.heap.size ≤ g) :
  Calls Tryz.prog 65 #[.slice A l.length cap, .func (.func F) #[] caps.toArray] w0 fun e w' => ∃ (V : List (List Int)) (Lv' : List Blk), e = .returned (.tuple #[]) ∧ (∀ o, o ∈ V ↔ o.Perm l) ∧ R (V.foldl vis s0) Lv' ∧ SH w0 (Lv0.map (·.g)) w' Lv' := by
 obtain ⟨S, hS⟩ : ∃ S, S = Lv0.map (·.g) := ⟨_, rfl⟩
 rw [← hS] at H0 hLv ⊢
 have hbel : ∀ {w : World} {L : List Blk}, SH w0 S w L → Below wB.heap.size wB w := fun {w L} H =>
  ⟨H.os.trans hB.os, H.tape.trans hB.tape, H.output.trans hB.output, Nat.le_trans hB.size H.size, fun k hk => (H.low k (Nat.lt_of_lt_of_le hk hB.size) (fun hm => by have := hLv k hm; omega)).trans (hB.block k hk)⟩
 have H := H0
 have hsl := srt_len l
 have hsp := srt_perm l
 refine Calls.ofWP Tryz.func65 rfl Tryz.results65 Tryz.ntmps65 rfl <| WP.scope <| Y.qr <| Y.v (Ev.mvS rfl) <| OPS.call (d := some 7) rfl rfl rfl (EvC.func (fun_run rfl)) (slValues A l.length cap w0) ?_
 rintro _ w ⟨gv, rfl, Hc⟩
 refine ⟨_, rfl, ?_⟩
 have hz1 := hz.sh Hc
 have hg1 := Hc.own ⟨gv, 30, [.slice A l.length cap]⟩ (by simp)
 replace H := SH.call (L1 := Lv0) (Lv := []) (by simpa using H) (by simpa using Hc.drop (List.nil_sublist _))
 clear Hc
 refine OPS.call (d := some 8) rfl rfl rfl (EvC.func (fun_run rfl)) (slSorted gv A l cap w hz1 (by omega) (by simpa using hg1)) ?_
 rintro _ w ⟨A', c, Lo, rfl, hO, Hc⟩
 refine ⟨_, rfl, ?_⟩
 replace H := SH.call (L1 := Lv0) (Lv := []) (by simpa using H) Hc
 clear Hc hz1 hg1
 have hA : A' = none → c = 0 := fun h => by
  rcases hO.form with ⟨_, _, h2, _⟩ | ⟨g, sp, h2, _⟩
  ·exact h2
  ·rw [h] at h2; cases h2
 rw [← hsl] at hO
 have hmet := Met.start hsp (by
  have h1 := srt_sorted l
  have h2 := List.nodup_iff_pairwise_ne.1 (hsp.nodup_iff.2 hnd)
  exact (h1.and h2).imp fun h => by omega)
 rw [← hsl]
 refine Y.v (Ev.asS rfl) <| Y.z <| Y.q <| WP.label <| WP.block <| WP.loop [4, 5, 9, 10, 11, 12, 13, 14, 15, 16, 17, 18, 19, 20, 21, 22, 23, 24, 25, 26, 27, 28, 29, 30, 31, 32, 33, 34, 35, 36, 37, 38, 39, 40, 41, 42, 43, 44, 45, 46, 47, 48, 49, 50, 51, 52, 53, 54] (fun k e w' => ∃ (cur : List Int) (V : List (List Int)) (Lv Lo : List Blk), k = 64 ^ cur.length - encL cur ∧ cur.length = (srt l).length ∧ Met l cur V ∧ OwnS A' c cur.length (cur.map I) 3 1 Lo ∧ R (V.foldl vis s0) Lv ∧ SH w0 S w' (Lv ++ Lo)) ((64 ^ (srt l).length - encL (srt l))) (⟨srt l, [], Lv0, Lo, rfl, rfl, hmet, hO, hR0, H⟩) ?_
 clear H hO hmet
 rintro k u w ⟨cur, V, Lv, Lo, hk, hcl, hmet, hO, hR, H⟩
 rw [← hcl]
 have hpc := hmet.perm
 have hndc : cur.Nodup := hpc.nodup_iff.2 hnd
 have hrgc : ∀ x ∈ cur, 0 ≤ x ∧ x < 64 := fun x hx => hrg x (hpc.mem_iff.1 hx)
 have hcl16 : cur.length ≤ 16 := by rw [hcl, hsl]; exact hl
 have hlec : cur.length ≤ c := by
  rcases hO.form with ⟨_, h, _⟩ | ⟨_, _, _, _, h, _⟩
  ·omega
  ·exact h
 refine WP.block <| Y.qr <| Y.v (Ev.mvF rfl) <| Y.v (Ev.mvS rfl) <| OPS.call (d := some 11) rfl rfl rfl (EvC.clos rfl (fun_run (by assumption))) (hvis (V.foldl vis s0) Lv w A' cur c (hbel H) hR (H.restart (List.sublist_append_left _ _)) (hO.ones H).1 hA hlec hpc) ?_
 rintro _ w ⟨Lv', rfl, hR', Hc⟩
 refine ⟨_, rfl, ?_⟩
 replace H := (SH.call (L1 := Lo) (Lv := Lv) (H.perm List.perm_append_comm) Hc).perm List.perm_append_comm
 clear Hc hR
 have hR2 : R ((V ++ [cur]).foldl vis s0) Lv' := by rw [List.foldl_append]; exact hR'
 refine Y.z <| Y.q <| Y.qr <| Y.v (Ev.mvS rfl) <| Y.v (Y.n rfl) <| Y.v (Y.s rfl rfl) <| Y.b rfl <| Y.z <| WP.block <| WP.loop [4, 5, 15, 16, 17, 18, 19, 20, 21, 22, 23, 24, 25, 26, 27, 28, 29, 30, 31, 32, 33, 34, 35, 36, 37, 38, 39, 40, 41, 42, 43, 44, 45, 46, 47, 48, 49, 50, 51, 52, 53, 54] (fun k e w' => ∃ (i : Int), e 4 = I i ∧ k = (i + 2).toNat ∧ -2 ≤ i ∧ i ≤ (cur.length : Int) - 2 ∧ Fall cur (i + 1).toNat ∧ SH w0 S w' (Lv' ++ Lo)) (cur.length) (⟨(cur.length : Int) - 2, rfl, by omega, by omega, by omega, fun a b h1 h2 h3 => by omega, H⟩) ?_
 clear H
 rintro k3 u3 w ⟨i, h4, hk3, hi2, hil, hfall, H⟩
 refine WP.know (t := 4) h4 <| Y.q <| Y.qr <| Y.a rfl <| Y.v (Ev.geq rfl rfl) <| Y.z ?_
 refine WP.cond rfl (fun hc3 => ?_) (fun hc3 => ?_)
 ·have hi0 : 0 ≤ i := by simpa using hc3
  obtain ⟨i, rfl⟩ := Int.eq_ofNat_of_zero_le hi0
  have hfall' : Fall cur (i + 1) := by simpa using hfall
  refine Y.k <| Y.q <| WP.block <| Y.qr <| Y.v (Ev.mvS rfl) <| Y.v (Y.n rfl) <| Y.v (Y.s rfl rfl) <| Y.b rfl <| Y.z <| WP.block <| WP.loop [5, 22, 23, 24, 25, 26, 27, 28, 29, 30, 31, 32, 33, 34, 35, 36, 37, 38, 39, 40, 41, 42, 43, 44, 45, 46, 47, 48, 49, 50, 51, 52, 53, 54] (fun k e w' => ∃ (j : Nat), e 5 = I j ∧ k = j ∧ i ≤ j ∧ j < cur.length ∧ (∀ q, j < q → q < cur.length → ¬ cur.getD i 0 < cur.getD q 0) ∧ SH w0 S w' (Lv' ++ Lo)) ((cur.length - 1)) (⟨cur.length - 1, by show I ((cur.length : Int) - 1) = _; congr 1; omega, rfl, by omega, by omega, fun q h1 h2 => by omega, H⟩) ?_
  clear H
  rintro k6 u6 w ⟨j, h5, hk6, hij, hjl, hno, H⟩
  refine WP.know (t := 5) h5 <| Y.q <| Y.qr <| Y.a rfl <| Y.a rfl <| Y.v (Ev.gtr rfl rfl) <| Y.z ?_
  refine WP.cond rfl (fun hc6 => ?_) (fun hc6 => ?_)
  ·have hlt : i < j := by simpa using hc6
   obtain ⟨g, sp, hAe, hLo, o1, o2, o3⟩ : ∃ g sp, A' = some ⟨g, 0, none⟩ ∧ Lo = [⟨g, 3, cur.map I ++ sp⟩] ∧ cur.length ≤ c ∧ c ≤ maxLen ∧ (cur.map I ++ sp).length = c * 1 := by
    rcases hO.form with ⟨_, h, _⟩ | h
    ·omega
    ·exact h
   have hgi := getDi (show i < cur.length by omega)
   have hgj := getDi (show j < cur.length by omega)
   have hcell : ∀ (w : World), SH w0 S w (Lv' ++ Lo) → ∀ q (h : q < cur.length), w.cell? ⟨g, 0 + q, none⟩ = some (I (cur.getD q 0)) := fun w H q h => by
    obtain ⟨b, o, e, hc⟩ := (hO.ones H).1 q h
    rw [hAe] at e; cases e
    rw [getDi h]; exact hc
   subst hAe
   refine Y.k <| Y.q <| WP.block <| Y.q <| WP.rstill mixed (by kernel_rfl) H ?_
   clear H; intro w hbw8 H
   have hx := hcell w H i (by omega)
   have hy := hcell w H j (by omega)
   refine Y.v (Ev.mvS rfl) <| Y.a rfl <| Y.v (Y.x rfl rfl rfl rfl) <| Y.v (Y.c (by assumption) rfl) ?_
   refine Y.v (Ev.mvS rfl) <| Y.a rfl <| Y.v (Y.x rfl rfl rfl rfl) <| Y.v (Y.c (by assumption) rfl) ?_
   refine Y.v (Ev.lss rfl rfl) <| OPS.nil_s ?_
   refine WP.cond rfl (fun hc8 => ?_) (fun hc8 => ?_)
   ·have hlx : cur.getD i 0 < cur.getD j 0 := by simpa using hc8
    subst hLo
    have hcl2 : ∀ (w : World), SH w0 S w (⟨g, 3, cur.map I ++ sp⟩ :: Lv') → ∀ q (h : q < cur.length), w.cell? ⟨g, 0 + q, none⟩ = some (I (cur.getD q 0)) := fun w H q h => by
     obtain ⟨b, o, e, hc⟩ := OnesAt.own (enc := I) (l := cur) (post := sp) H 0 rfl rfl q h
     cases e
     rw [getDi h]; exact hc
    have Hf := H.perm (List.perm_append_singleton _ _)
    replace H := H.drop (List.nil_sublist _)
    have hl1 : ((swp cur i j).take (i + 1)).length = 0 + (i + 1) * 1 := by rw [List.length_take, swp_len]; omega
    have hl2 : ((swp cur i j).drop (i + 1)).length = cur.length - (i + 1) := by rw [List.length_drop, swp_len]
    have hrev := fun w hb => revOwn g ((swp cur i j).take (i + 1)) ((swp cur i j).drop (i + 1)) sp (c - (i + 1)) w hb (by rw [hl2]; omega)
    simp only [hl1, hl2, List.take_append_drop] at hrev
    refine Y.q ?_
    refine WP.rheldC [36, 37, 38, 39, 40, 41, 42, 43, 44, 45, 46, 47, 48, 49] (fun _ w' => SH w0 S w' (⟨g, 3, (swp cur i j).map I ++ sp⟩ :: Lv')) mixed H ?_ ?_
    ·clear H; intro w hbw9 H
     refine Y.t 0 H rfl rfl (fun w H => Ev.mvS rfl) <| Y.t 1 H rfl rfl (fun w H => Y.m rfl) <| Y.t 2 H rfl rfl (fun w H => Ev.mvS rfl) <| Y.t 3 H rfl rfl (fun w H => Y.m rfl) <| Y.t 4 H rfl rfl (fun w H => Ev.mvS rfl) <| Y.t 5 H rfl rfl (fun w H => Y.m rfl) <| Y.t 6 H rfl rfl (fun w H => Y.x rfl rfl rfl rfl) <| Y.t 8 H rfl rfl (fun w H => Ev.mvS rfl) <| Y.t 9 H rfl rfl (fun w H => Y.m rfl) <| Y.t 10 H rfl rfl (fun w H => Y.x rfl rfl rfl rfl) ?_
     refine Y.A2 7 11 rfl rfl rfl ?_ ?_
     ·try replace Hf := Hf.toBelow hbw9
      have hy := hcl2 w Hf j (by omega)
      refine Y.v (Y.c hy rfl) <| Y.z <| ⟨(H), ?_⟩
      refine Y.A1 11 rfl rfl ?_
      try replace Hf := Hf.toBelow hbw9
      have hx := hcl2 w Hf i (by omega)
      refine Y.v (Y.c hx rfl) <| Y.z <| ⟨(H), ?_⟩
      refine Y.t 12 H rfl rfl (fun w H => Y.x rfl rfl rfl rfl) <| Y.A1 13 rfl rfl <| OPS.store 0 _ rfl rfl rfl (size_run rfl) rfl (cI rfl) rfl rfl Hf rfl (by simp; omega) ?_
      clear H Hf; intro w Hf
      replace Hf : SH w0 S w (⟨g, 3, putL (cur.map I ++ sp) (0 + i) [I (cur.getD j 0)]⟩ :: Lv') := Hf
      rw [set_ints _ _ _ _ (by omega)] at Hf
      have H := Hf.drop (List.nil_sublist _)
      refine Y.z <| ⟨(H), ?_⟩
      refine Y.t 14 H rfl rfl (fun w H => Y.x rfl rfl rfl rfl) <| Y.A1 15 rfl rfl <| OPS.store 0 _ rfl rfl rfl (size_run rfl) rfl (cI rfl) rfl rfl Hf rfl (by simp; omega) ?_
      clear H Hf; intro w Hf
      replace Hf : SH w0 S w (⟨g, 3, putL ((cur.set i (cur.getD j 0)).map I ++ sp) (0 + j) [I (cur.getD i 0)]⟩ :: Lv') := Hf
      rw [set_ints _ _ _ _ (by rw [List.length_set]; omega)] at Hf
      have H := Hf.drop (List.nil_sublist _)
      refine Y.z <| ⟨(H), ?_⟩
      refine Y.dn ?_
      exact ⟨Y.ag, Hf⟩
     ·try replace Hf := Hf.toBelow hbw9
      have hx := hcl2 w Hf i (by omega)
      refine Y.v (Y.c hx rfl) <| Y.z <| ⟨(H), ?_⟩
      refine Y.A1 7 rfl rfl ?_
      try replace Hf := Hf.toBelow hbw9
      have hy := hcl2 w Hf j (by omega)
      refine Y.v (Y.c hy rfl) <| Y.z <| ⟨(H), ?_⟩
      refine Y.t 12 H rfl rfl (fun w H => Y.x rfl rfl rfl rfl) <| Y.A1 13 rfl rfl <| OPS.store 0 _ rfl rfl rfl (size_run rfl) rfl (cI rfl) rfl rfl Hf rfl (by simp; omega) ?_
      clear H Hf; intro w Hf
      replace Hf : SH w0 S w (⟨g, 3, putL (cur.map I ++ sp) (0 + i) [I (cur.getD j 0)]⟩ :: Lv') := Hf
      rw [set_ints _ _ _ _ (by omega)] at Hf
      have H := Hf.drop (List.nil_sublist _)
      refine Y.z <| ⟨(H), ?_⟩
      refine Y.t 14 H rfl rfl (fun w H => Y.x rfl rfl rfl rfl) <| Y.A1 15 rfl rfl <| OPS.store 0 _ rfl rfl rfl (size_run rfl) rfl (cI rfl) rfl rfl Hf rfl (by simp; omega) ?_
      clear H Hf; intro w Hf
      replace Hf : SH w0 S w (⟨g, 3, putL ((cur.set i (cur.getD j 0)).map I ++ sp) (0 + j) [I (cur.getD i 0)]⟩ :: Lv') := Hf
      rw [set_ints _ _ _ _ (by rw [List.length_set]; omega)] at Hf
      have H := Hf.drop (List.nil_sublist _)
      refine Y.z <| ⟨(H), ?_⟩
      refine Y.dn ?_
      exact ⟨Y.ag, Hf⟩
    clear H
    rintro u w H
    refine Y.qr <| Y.v (Ev.mvS rfl) <| Y.a rfl <| Y.v (Y.p rfl rfl) <| Y.v (Ev.sliceFrom2 (j := i + 1) (el_run rfl) (size_run rfl) rfl rfl rfl (by omega) (by omega)) <| OPS.call (d := some 54) rfl rfl rfl (EvC.func (fun_run rfl)) (hrev w (H.own _ List.mem_cons_self)) ?_
    rintro _ w ⟨rfl, Hc⟩
    refine ⟨_, rfl, ?_⟩
    replace H := SH.call (L1 := Lv') (Lv := [⟨g, 3, (swp cur i j).map I ++ sp⟩]) (H.perm (List.perm_append_singleton _ _).symm) Hc
    clear Hc
    have hstl := stepL_len cur i j
    obtain ⟨hst1, hst2, _⟩ := step_ok hlt hjl hfall' hlx hno hndc
    have hen := encL_lex hstl.symm hrgc (fun x hx => hrgc x (hst2.mem_iff.1 hx)) hst1
    have hen2 := encL_lt (l := stepL cur i j) (fun x hx => hrgc x (hst2.mem_iff.1 hx))
    rw [hstl] at hen2
    refine Y.z <| WP.exit <| XB.miss rfl <| XB.miss rfl <| XB.miss rfl <| XB.miss rfl <| XB.hit ?_
    exact ⟨Y.ag, 64 ^ (stepL cur i j).length - encL (stepL cur i j), by rw [hstl]; omega, stepL cur i j, V ++ [cur], Lv', _, rfl, by rw [hstl], hmet.step hlt hjl hfall' hlx hno hndc, ⟨by rw [List.length_map, hstl]; omega, .inr ⟨g, sp, rfl, rfl, by rw [hstl]; exact o1, o2, by rw [List.length_append, List.length_map, hstl]; simpa using o3⟩⟩, hR2, H⟩
   have hlx : ¬ cur.getD i 0 < cur.getD j 0 := by simpa using hc8
   refine Y.k <| Y.r <| Y.a rfl <| Y.v (Y.s rfl rfl) <| Y.b rfl <| Y.z ?_
   exact ⟨Y.ag, k6 - 1, by omega, j - 1, by show I ((j : Int) - 1) = _; congr 1; omega, by omega, by omega, by omega, (fun q h1 h2 => by
    by_cases h : q = j
    ·subst h; exact hlx
    ·exact hno q (by omega) h2), H⟩
  have hij' : j = i := by simp at hc6; omega
  subst hij'
  refine WP.exit <| XB.hit <| Y.r <| Y.a rfl <| Y.v (Y.s rfl rfl) <| Y.b rfl <| Y.z ?_
  exact ⟨Y.ag, k3 - 1, by omega, (j : Int) - 1, rfl, by omega, by omega, by omega, by simpa using fall_more hfall' hno hndc, H⟩
 refine WP.exit <| XB.hit ?_
 refine WP.ret ⟨_, rfl, ?_⟩
 have hi1 : i < 0 := by simpa using hc3
 exact ⟨V ++ [cur], Lv', rfl, hmet.done (by rw [show (i + 1).toNat = 0 by omega] at hfall; exact hfall), hR2, H.drop (List.sublist_append_left _ _)⟩
end Go.Proofs.YthobaaefdehoiaaGreat

/-
 Walks: the best of the orders of some needs.
-/
set_option linter.all false
namespace Go.Proofs.YthobaaefdehoiaaGreat
open Go Go.W Go.RowKit
theorem or_worse {m d : List Int → Int} {a b : List Int} : orI [cmpI (m a) (m b), cmpI (d b) (d a), cmpLs b a] < 0 ↔ worse m d a b := by
 have hl := cmpLs_neg b a
 unfold worse cmpI orI orI orI orI
 by_cases h1 : m a < m b
 ·simp [h1]
 ·by_cases h2 : m b < m a
  ·simp [h1, h2]; omega
  ·have : m a = m b := by omega
   by_cases h3 : d b < d a
   ·simp [this, h3]
   ·by_cases h4 : d a < d b
    ·simp [this, h3, h4]; omega
    ·have : d a = d b := by omega
     simp [*]
     by_cases h5 : cmpLs b a = 0
     ·simp [h5] at hl ⊢; simpa using hl
     ·simp [h5]; exact hl
section
variable (n : Int) (l : List Edg) (ts : List Truck) (ns : List Need) (hd rt : Int)
noncomputable def secsD (o : List Int) : Int := outD n l ts ns hd rt o
noncomputable def feasB (o : List Int) : Bool := decide (walkE n l ts ns hd rt o = 0)
noncomputable def fndV (s : Option (List Int)) (A : Option Addr) (c : Nat) : List Value :=
 match s with
 | none => fndCells none 0 0 0 0 false
 | some x => fndCells A x.length c (mvL ns x) (secsD n l ts ns hd rt x) true
theorem fndV_len (s : Option (List Int)) (A : Option Addr) (c : Nat) : (fndV n l ts ns hd rt s A c).length = 4 := by cases s <;> rfl
def OwnF (s : Option (List Int)) (A : Option Addr) (c : Nat) (Lf : List Blk) : Prop :=
 match s with
 | none => Lf = []
 | some x => OwnS A c x.length (x.map I) 3 1 Lf
noncomputable def takesB (s : Option (List Int)) (y : List Int) : Bool :=
 match s with
 | none => true
 | some x => decide (worse (mvL ns) (secsD n l ts ns hd rt) x y)
theorem betterO (s : Option (List Int)) (A : Option Addr) (c : Nat) (B : Option Addr) (y : List Int) (cb : Nat) (w0 : World) (ha : ∀ x, s = some x → IntsAt w0 A x ∧ x.length ≤ 1000) (hb : IntsAt w0 B y) (hbl : y.length ≤ 1000) :
  Calls Tryz.prog 51 #[.agg (fndV n l ts ns hd rt s A c).toArray, .agg (fndV n l ts ns hd rt (some y) B cb).toArray] w0 fun e w' => e = .returned (.agg (fndV n l ts ns hd rt (bet (mvL ns) (secsD n l ts ns hd rt) s (some y)) (if takesB n l ts ns hd rt s y = true then B else A) (if takesB n l ts ns hd rt s y = true then cb else c)).toArray) ∧ Below w0.heap.size w0 w' := by
 cases s with
 | none => exact betterN undef undef undef B y.length cb (mvL ns y) (secsD n l ts ns hd rt y) none 0 0 0 0 w0
 | some x =>
  obtain ⟨h1, h2⟩ := ha x rfl
  refine (betterY A x c (mvL ns x) (secsD n l ts ns hd rt x) B y cb (mvL ns y) (secsD n l ts ns hd rt y) w0 h1 hb h2 hbl).mono ?_
  rintro e w' ⟨rfl, hB⟩
  refine ⟨?_, hB⟩
  by_cases h : worse (mvL ns) (secsD n l ts ns hd rt) x y
  ·have h' := (or_worse (m := mvL ns) (d := secsD n l ts ns hd rt)).2 h
   have ht : takesB n l ts ns hd rt (some x) y = true := decide_eq_true h
   have hbt : bet (mvL ns) (secsD n l ts ns hd rt) (some x) (some y) = some y := if_pos h
   rw [if_pos h', if_pos ht, if_pos ht, hbt]; rfl
  ·have h' := fun q => h ((or_worse (m := mvL ns) (d := secsD n l ts ns hd rt)).1 q)
   have ht : ¬ takesB n l ts ns hd rt (some x) y = true := by simpa [takesB] using h
   have hbt : bet (mvL ns) (secsD n l ts ns hd rt) (some x) (some y) = some x := if_neg h
   rw [if_neg h', if_neg ht, if_neg ht, hbt]; rfl
def VisR (wB : World) (g7 : Nat) (s : Option (List Int)) (Lv : List Blk) : Prop :=
 (∀ g ∈ Lv.map (·.g), wB.heap.size ≤ g) ∧ (∀ x, s = some x → x.length ≤ 1000) ∧ ∃ A c Lf, Lv = ⟨g7, 119, fndV n l ts ns hd rt s A c⟩ :: Lf ∧ OwnF s A c Lf
end
end Go.Proofs.YthobaaefdehoiaaGreat
