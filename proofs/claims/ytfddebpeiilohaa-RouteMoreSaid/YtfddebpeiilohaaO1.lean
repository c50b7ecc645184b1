/-
  Plain: lists in lexical order; the best of some lists.
-/
import Derived.Test.YtfddebpeiilohaaBase
set_option linter.all false
namespace Go.Proofs.Ytfddebpeiilohaa
open Go Go.W Go.RowKit

/-- a comes before b -/
def lexB : List Int → List Int → Bool
  | [], [] => false
  | [], _ :: _ => true
  | _ :: _, [] => false
  | x :: a, y :: b => if x < y then true else if y < x then false else lexB a b
theorem lexB_irr : ∀ a, lexB a a = false
  | [] => rfl
  | x :: a => by rw [lexB, if_neg (Int.lt_irrefl _), if_neg (Int.lt_irrefl _), lexB_irr a]
theorem lexB_tri : ∀ {a b : List Int}, lexB a b = false → lexB b a = false → a = b
  | [], [], _, _ => rfl
  | [], _ :: _, h, _ => by cases h
  | _ :: _, [], _, h => by cases h
  | x :: a, y :: b, h1, h2 => by
    rw [lexB] at h1 h2
    by_cases h3 : x < y
    · rw [if_pos h3] at h1; cases h1
    · by_cases h4 : y < x
      · rw [if_pos h4] at h2; cases h2
      · rw [if_neg h3, if_neg h4] at h1
        rw [if_neg h4, if_neg h3] at h2
        rw [lexB_tri h1 h2, show x = y by omega]
theorem lexB_asym : ∀ {a b : List Int}, lexB a b = true → lexB b a = false
  | [], [], h => by cases h
  | [], _ :: _, _ => rfl
  | _ :: _, [], h => by cases h
  | x :: a, y :: b, h => by
    rw [lexB] at h ⊢
    by_cases h3 : x < y
    · rw [if_neg (show ¬ y < x by omega), if_pos h3]
    · by_cases h4 : y < x
      · rw [if_neg h3, if_pos h4] at h; cases h
      · rw [if_neg h3, if_neg h4] at h
        rw [if_neg h4, if_neg h3]; exact lexB_asym h
theorem lexB_trans : ∀ {a b c : List Int}, lexB a b = true → lexB b c = true → lexB a c = true
  | [], [], _, h, _ => by cases h
  | [], _ :: _, [], _, h => by cases h
  | [], _ :: _, _ :: _, _, _ => rfl
  | _ :: _, [], _, h, _ => by cases h
  | _ :: _, _ :: _, [], _, h => by cases h
  | x :: a, y :: b, z :: c, h1, h2 => by
    rw [lexB] at h1 h2 ⊢
    by_cases h3 : x < y
    · by_cases h4 : z < y
      · rw [if_neg (by omega), if_pos h4] at h2; cases h2
      · rw [if_pos (by omega)]
    · by_cases h5 : y < x
      · rw [if_neg h3, if_pos h5] at h1; cases h1
      · have hxy : x = y := by omega
        subst hxy
        rw [if_neg h3, if_neg h5] at h1
        by_cases h4 : x < z
        · rw [if_pos h4]
        · rw [if_neg h4] at h2 ⊢
          by_cases h6 : z < x
          · rw [if_pos h6] at h2; cases h2
          · rw [if_neg h6] at h2 ⊢
            exact lexB_trans h1 h2
section
variable (m d : List Int → Int)
/-- b is better than a -/
def worse (a b : List Int) : Prop := m a < m b ∨ (m a = m b ∧ (d b < d a ∨ (d b = d a ∧ lexB b a = true)))
theorem worse_irr (a : List Int) : ¬ worse m d a a := by
  rintro (h | ⟨_, h | ⟨_, h⟩⟩)
  · omega
  · omega
  · rw [lexB_irr] at h; cases h
theorem worse_trans {a b c : List Int} (h1 : worse m d a b) (h2 : worse m d b c) : worse m d a c := by
  unfold worse at *
  rcases h1 with h1 | ⟨h1, h1' | ⟨h1', h1''⟩⟩ <;> rcases h2 with h2 | ⟨h2, h2' | ⟨h2', h2''⟩⟩
  · left; omega
  · left; omega
  · left; omega
  · left; omega
  · right; exact ⟨by omega, .inl (by omega)⟩
  · right; exact ⟨by omega, .inl (by omega)⟩
  · left; omega
  · right; exact ⟨by omega, .inl (by omega)⟩
  · right; exact ⟨by omega, .inr ⟨by omega, lexB_trans h2'' h1''⟩⟩
theorem worse_tri {a b : List Int} (h1 : ¬ worse m d a b) (h2 : ¬ worse m d b a) : a = b := by
  unfold worse at *
  have e1 : m a = m b := by
    rcases Int.lt_trichotomy (m a) (m b) with h | h | h
    · exact absurd (.inl h) h1
    · exact h
    · exact absurd (.inl h) h2
  have e2 : d a = d b := by
    rcases Int.lt_trichotomy (d a) (d b) with h | h | h
    · exact absurd (.inr ⟨e1.symm, .inl h⟩) h2
    · exact h
    · exact absurd (.inr ⟨e1, .inl h⟩) h1
  refine lexB_tri ?_ ?_
  · cases h : lexB a b with
    | false => rfl
    | true => exact absurd (.inr ⟨e1.symm, .inr ⟨e2, h⟩⟩) h2
  · cases h : lexB b a with
    | false => rfl
    | true => exact absurd (.inr ⟨e1, .inr ⟨e2.symm, h⟩⟩) h1
instance (a b : List Int) : Decidable (worse m d a b) := by unfold worse; exact inferInstance
def IsBest (C : List Int → Prop) : Option (List Int) → Prop
  | none => ∀ o, ¬ C o
  | some x => C x ∧ ∀ o, C o → ¬ worse m d x o
variable {m d}
theorem IsBest.unique {C : List Int → Prop} : ∀ {x y : Option (List Int)}, IsBest m d C x → IsBest m d C y → x = y
  | none, none, _, _ => rfl
  | none, some y, h, h' => absurd h'.1 (h y)
  | some x, none, h, h' => absurd h.1 (h' x)
  | some x, some y, h, h' => by rw [worse_tri m d (h.2 y h'.1) (h'.2 x h.1)]
theorem IsBest.congr {C C' : List Int → Prop} (hc : ∀ o, C o ↔ C' o) : ∀ {x : Option (List Int)}, IsBest m d C x → IsBest m d C' x
  | none, h => fun o ho => h o ((hc o).2 ho)
  | some x, h => ⟨(hc x).1 h.1, fun o ho => h.2 o ((hc o).2 ho)⟩
variable (m d)
def bet : Option (List Int) → Option (List Int) → Option (List Int)
  | none, y => y
  | some x, none => some x
  | some x, some y => if worse m d x y then some y else some x
variable {m d}
theorem IsBest.union {C C' : List Int → Prop} : ∀ {x y : Option (List Int)}, IsBest m d C x → IsBest m d C' y → IsBest m d (fun o => C o ∨ C' o) (bet m d x y)
  | none, none, h, h' => fun o ho => ho.elim (h o) (h' o)
  | none, some y, h, h' => ⟨.inr h'.1, fun o ho => ho.elim (fun hc => absurd hc (h o)) (h'.2 o)⟩
  | some x, none, h, h' => ⟨.inl h.1, fun o ho => ho.elim (h.2 o) (fun hc => absurd hc (h' o))⟩
  | some x, some y, h, h' => by
    show IsBest m d _ (if worse m d x y then some y else some x)
    by_cases hw : worse m d x y
    · rw [if_pos hw]
      exact ⟨.inr h'.1, fun o ho hyo => ho.elim (fun hc => h.2 o hc (worse_trans m d hw hyo)) (fun hc => h'.2 o hc hyo)⟩
    · rw [if_neg hw]
      refine ⟨.inl h.1, fun o ho hxo => ho.elim (fun hc => h.2 o hc hxo) (fun hc => ?_)⟩
      -- x < o, not o better than y: so x < y or ..
      by_cases hyo : worse m d o y
      · exact hw (worse_trans m d hxo hyo)
      · have : y = o := worse_tri m d (h'.2 o hc) hyo
        subst this; exact hw hxo
theorem IsBest.one (o : List Int) : IsBest m d (fun x => x = o) (some o) := ⟨rfl, fun x hx => by subst hx; exact worse_irr m d x⟩
theorem IsBest.zero : IsBest m d (fun _ => False) none := fun _ h => h
end
/-! ### the next order -/
theorem lexB_head {x : Int} {a b : List Int} : lexB (x :: a) (x :: b) = lexB a b := by rw [lexB, if_neg (Int.lt_irrefl _), if_neg (Int.lt_irrefl _)]
theorem lexB_pre : ∀ {p a b : List Int}, lexB (p ++ a) (p ++ b) = lexB a b
  | [], _, _ => rfl
  | x :: p, a, b => by rw [List.cons_append, List.cons_append, lexB_head, lexB_pre]
/-- a falling list is the last of its orders -/
theorem desc_max : ∀ {s t : List Int}, s.Pairwise (fun x y => y < x) → t.Perm s → lexB s t = false
  | [], t, _, hp => by rw [hp.eq_nil]; rfl
  | a :: s, t, hs, hp => by
    rw [List.pairwise_cons] at hs
    cases t with
    | nil => rfl
    | cons b t =>
      have hb : b ∈ a :: s := hp.mem_iff.1 List.mem_cons_self
      have hba : b ≤ a := by
        rcases List.mem_cons.1 hb with rfl | hb
        · exact Int.le_refl _
        · have := hs.1 b hb; omega
      by_cases h : b = a
      · subst h
        rw [lexB_head]
        exact desc_max hs.2 (List.perm_cons b |>.1 hp)
      · rw [lexB, if_neg (by omega), if_pos (by omega)]
/-- a rising list is the first of its orders -/
theorem asc_min : ∀ {s t : List Int}, s.Pairwise (fun x y => x < y) → t.Perm s → lexB t s = false
  | [], t, _, hp => by rw [hp.eq_nil]; rfl
  | a :: s, t, hs, hp => by
    rw [List.pairwise_cons] at hs
    cases t with
    | nil => exact absurd hp.length_eq (by simp)
    | cons b t =>
      have hb : b ∈ a :: s := hp.mem_iff.1 List.mem_cons_self
      have hba : a ≤ b := by
        rcases List.mem_cons.1 hb with rfl | hb
        · exact Int.le_refl _
        · have := hs.1 b hb; omega
      by_cases h : b = a
      · subst h
        rw [lexB_head]
        exact asc_min hs.2 (List.perm_cons b |>.1 hp)
      · rw [lexB, if_neg (by omega), if_pos (by omega)]
theorem perm_drop {p a b : List Int} (h : (p ++ a).Perm (p ++ b)) : a.Perm b := (List.perm_append_left_iff p).1 h
/-- the order that follows p, x, big, y, small (falling from big on; y the last that is greater than x) -/
theorem next_ok {p big small : List Int} {x y : Int} (hd : (big ++ y :: small).Pairwise fun a b => b < a) (hxy : x < y) (hsm : ∀ z ∈ small, z < x) :
    lexB (p ++ x :: (big ++ y :: small)) (p ++ y :: (big ++ x :: small).reverse) = true ∧
    (p ++ y :: (big ++ x :: small).reverse).Perm (p ++ x :: (big ++ y :: small)) ∧
    ∀ o : List Int, o.Perm (p ++ x :: (big ++ y :: small)) → lexB (p ++ x :: (big ++ y :: small)) o = true → o = p ++ y :: (big ++ x :: small).reverse ∨ lexB (p ++ y :: (big ++ x :: small).reverse) o = true := by
  have hd0 := hd
  rw [List.pairwise_append, List.pairwise_cons] at hd
  obtain ⟨d1, ⟨d2, d3⟩, d4⟩ := hd
  have hbig : ∀ z ∈ big, y < z := fun z hz => d4 z hz y List.mem_cons_self
  have hasc : ((big ++ x :: small).reverse).Pairwise fun a b => a < b := by
    rw [List.pairwise_reverse, List.pairwise_append, List.pairwise_cons]
    refine ⟨d1, ⟨hsm, d3⟩, fun z hz w hw => ?_⟩
    have := hbig z hz
    rcases List.mem_cons.1 hw with rfl | hw
    · omega
    · have := hsm w hw; omega
  have hperm : (y :: (big ++ x :: small).reverse).Perm (x :: (big ++ y :: small)) := by
    refine ((List.reverse_perm _).cons y).trans ?_
    refine (List.Perm.cons y List.perm_middle).trans ?_
    refine (List.Perm.swap x y _).trans ?_
    exact List.Perm.cons x List.perm_middle.symm
  refine ⟨by rw [lexB_pre, lexB, if_pos hxy], hperm.append_left p, ?_⟩
  induction p with
  | nil =>
    intro o ho hlt
    simp only [List.nil_append] at ho hlt ⊢
    cases o with
    | nil => cases hlt
    | cons z t =>
      have hz : z ∈ x :: (big ++ y :: small) := ho.mem_iff.1 List.mem_cons_self
      rw [lexB] at hlt
      by_cases h1 : x < z
      · -- z is at least y
        have hzy : y ≤ z := by
          rcases List.mem_cons.1 hz with rfl | hz
          · omega
          · rcases List.mem_append.1 hz with hz | hz
            · have := hbig z hz; omega
            · rcases List.mem_cons.1 hz with rfl | hz
              · exact Int.le_refl _
              · have := hsm z hz; omega
        by_cases h2 : z = y
        · subst h2
          have hp : t.Perm (big ++ x :: small).reverse := by
            have := ho.trans hperm.symm
            exact (List.perm_cons z).1 this
          have hm := asc_min hasc hp
          cases hx : lexB (big ++ x :: small).reverse t with
          | false => left; rw [lexB_tri hm hx]
          | true => right; rw [lexB_head]; exact hx
        · right; rw [lexB, if_pos (by omega)]
      · rw [if_neg h1] at hlt
        by_cases h2 : z < x
        · rw [if_pos h2] at hlt; cases hlt
        · rw [if_neg h2] at hlt
          have : z = x := by omega
          subst this
          rw [desc_max hd0 ((List.perm_cons z).1 ho)] at hlt; cases hlt
  | cons a p ih =>
    intro o ho hlt
    simp only [List.cons_append] at ho hlt ⊢
    cases o with
    | nil => cases hlt
    | cons z t =>
      rw [lexB] at hlt
      by_cases h1 : a < z
      · right; rw [lexB, if_pos h1]
      · rw [if_neg h1] at hlt
        by_cases h2 : z < a
        · rw [if_pos h2] at hlt; cases hlt
        · rw [if_neg h2] at hlt
          have : z = a := by omega
          subst this
          rcases ih t ((List.perm_cons z).1 ho) hlt with h | h
          · left; rw [h]
          · right; rw [lexB_head]; exact h
/-! ### parts of a list -/
def pickS : List Int → Nat → List Int
  | [], _ => []
  | x :: l, s => (if s % 2 = 1 then [x] else []) ++ pickS l (s / 2)
theorem pickS_snoc : ∀ (l : List Int) (x : Int) (s : Nat), pickS (l ++ [x]) s = pickS l s ++ if (s / 2 ^ l.length) % 2 = 1 then [x] else []
  | [], x, s => by simp [pickS]
  | a :: l, x, s => by
    rw [List.cons_append, pickS, pickS, pickS_snoc l x (s / 2), List.append_assoc, Nat.div_div_eq_div_mul, List.length_cons, Nat.pow_succ, Nat.mul_comm 2]
theorem pickS_all (p : Int → Bool) : ∀ l : List Int, ∃ s, s < 2 ^ l.length ∧ pickS l s = l.filter p
  | [] => ⟨0, by simp, rfl⟩
  | x :: l => by
    obtain ⟨s, h1, h2⟩ := pickS_all p l
    cases hp : p x with
    | true => exact ⟨2 * s + 1, by rw [List.length_cons, Nat.pow_succ]; omega, by rw [pickS, if_pos (by omega), show (2 * s + 1) / 2 = s by omega, h2, List.filter_cons_of_pos hp]; rfl⟩
    | false => exact ⟨2 * s, by rw [List.length_cons, Nat.pow_succ]; omega, by rw [pickS, if_neg (by omega), show 2 * s / 2 = s by omega, h2, List.filter_cons_of_neg (by rw [hp]; simp)]; rfl⟩
theorem pickS_sub : ∀ (l : List Int) (s : Nat), (pickS l s).Sublist l
  | [], _ => List.Sublist.refl _
  | x :: l, s => by
    rw [pickS]
    have := pickS_sub l (s / 2)
    split
    · exact this.cons_cons x
    · exact this.cons x
/-- every selection without repetition is an order of a part -/
theorem part_of {l o : List Int} (hl : l.Nodup) (ho : o.Nodup) (hs : ∀ x ∈ o, x ∈ l) : ∃ s, s < 2 ^ l.length ∧ o.Perm (pickS l s) := by
  obtain ⟨s, h1, h2⟩ := pickS_all (fun x => decide (x ∈ o)) l
  refine ⟨s, h1, ?_⟩
  rw [h2]
  refine (List.perm_ext_iff_of_nodup ho (hl.filter _)).2 fun x => ?_
  rw [List.mem_filter]
  simp
  exact hs x
end Go.Proofs.Ytfddebpeiilohaa

/-
  Plain: the step from an order to the next one, by places; all orders are met.
-/
set_option linter.all false
namespace Go.Proofs.Ytfddebpeiilohaa
open Go Go.W Go.RowKit

/-- what the program does with places i and k -/
def swp (l : List Int) (i k : Nat) : List Int := (l.set i (l.getD k 0)).set k (l.getD i 0)
theorem swp_len (l : List Int) (i k : Nat) : (swp l i k).length = l.length := by simp [swp]
def stepL (l : List Int) (i k : Nat) : List Int := (swp l i k).take (i + 1) ++ ((swp l i k).drop (i + 1)).reverse
theorem stepL_len (l : List Int) (i k : Nat) : (stepL l i k).length = l.length := by
  unfold stepL
  rw [List.length_append, List.length_reverse, ← List.length_append, List.take_append_drop, swp_len]
theorem getDi {l : List Int} {k : Nat} (h : k < l.length) : l.getD k 0 = l[k] := by rw [List.getD_eq_getElem?_getD, List.getElem?_eq_getElem h]; rfl
theorem stepL_form {p big small : List Int} {x y : Int} : stepL (p ++ x :: (big ++ y :: small)) p.length (p.length + 1 + big.length) = p ++ y :: (big ++ x :: small).reverse := by
  have e1 : (p ++ x :: (big ++ y :: small)).getD p.length 0 = x := by rw [List.getD_eq_getElem?_getD, List.getElem?_append_right (Nat.le_refl _)]; simp
  have e2 : (p ++ x :: (big ++ y :: small)).getD (p.length + 1 + big.length) 0 = y := by
    rw [List.getD_eq_getElem?_getD, List.getElem?_append_right (by omega), show p.length + 1 + big.length - p.length = big.length + 1 by omega, List.getElem?_cons_succ, List.getElem?_append_right (Nat.le_refl _)]; simp
  have e3 : swp (p ++ x :: (big ++ y :: small)) p.length (p.length + 1 + big.length) = p ++ y :: (big ++ x :: small) := by
    unfold swp
    rw [e1, e2, List.set_append_right _ _ (Nat.le_refl _), Nat.sub_self, List.set_cons_zero, List.set_append_right _ _ (by omega), show p.length + 1 + big.length - p.length = big.length + 1 by omega, List.set_cons_succ, List.set_append_right _ _ (Nat.le_refl _), Nat.sub_self, List.set_cons_zero]
  unfold stepL
  rw [e3, show p ++ y :: (big ++ x :: small) = (p ++ [y]) ++ (big ++ x :: small) by simp, List.take_left' (by simp), List.drop_left' (by simp)]
  simp
/-- falling from place j on -/
def Fall (l : List Int) (j : Nat) : Prop := ∀ a b, j ≤ a → a < b → b < l.length → l.getD b 0 < l.getD a 0
theorem split_at {l : List Int} {i k : Nat} (hik : i < k) (hk : k < l.length) : ∃ p big small, l = p ++ l.getD i 0 :: (big ++ l.getD k 0 :: small) ∧ p.length = i ∧ p.length + 1 + big.length = k ∧ (big ++ l.getD k 0 :: small) = l.drop (i + 1) ∧ small = l.drop (k + 1) := by
  refine ⟨l.take i, (l.drop (i + 1)).take (k - (i + 1)), l.drop (k + 1), ?_, by simp; omega, by simp; omega, ?_, rfl⟩
  · rw [getDi hk, getDi (show i < l.length by omega)]
    have h1 : (l.drop (i + 1)).take (k - (i + 1)) ++ l[k] :: l.drop (k + 1) = l.drop (i + 1) := by
      have := List.take_append_drop (k - (i + 1)) (l.drop (i + 1))
      rw [List.drop_drop, show i + 1 + (k - (i + 1)) = k by omega, List.drop_eq_getElem_cons hk] at this
      exact this
    rw [h1, ← List.drop_eq_getElem_cons (show i < l.length by omega), List.take_append_drop]
  · rw [getDi hk]
    have := List.take_append_drop (k - (i + 1)) (l.drop (i + 1))
    rw [List.drop_drop, show i + 1 + (k - (i + 1)) = k by omega, List.drop_eq_getElem_cons hk] at this
    exact this
theorem fall_drop {l : List Int} {j : Nat} (h : Fall l j) : (l.drop j).Pairwise fun a b => b < a := by
  rw [List.pairwise_iff_getElem]
  intro a b ha hb hab
  rw [List.getElem_drop, List.getElem_drop]
  have := h (j + a) (j + b) (by omega) (by omega) (by simp at hb; omega)
  rw [getDi (by simp at hb; omega), getDi (by simp at ha; omega)] at this
  exact this
/-- the step -/
theorem step_ok {l : List Int} {i k : Nat} (hik : i < k) (hk : k < l.length) (hf : Fall l (i + 1)) (hlt : l.getD i 0 < l.getD k 0) (hno : ∀ k', k < k' → k' < l.length → ¬ l.getD i 0 < l.getD k' 0) (hnd : l.Nodup) :
    lexB l (stepL l i k) = true ∧ (stepL l i k).Perm l ∧ ∀ o : List Int, o.Perm l → lexB l o = true → o = stepL l i k ∨ lexB (stepL l i k) o = true := by
  obtain ⟨p, big, small, h1, h2, h3, h4, h5⟩ := split_at hik hk
  have hd := fall_drop hf
  rw [← h4] at hd
  have hsm : ∀ z ∈ small, z < l.getD i 0 := fun z hz => by
    rw [h5] at hz
    obtain ⟨q, hq, rfl⟩ := List.mem_iff_getElem.1 hz
    simp at hq
    rw [List.getElem_drop]
    have := hno (k + 1 + q) (by omega) (by omega)
    rw [getDi (show k + 1 + q < l.length by omega)] at this
    have hne : l[k + 1 + q] ≠ l.getD i 0 := by
      rw [getDi (show i < l.length by omega)]
      intro he
      have := (List.getElem_inj hnd).1 he
      omega
    omega
  have hn := next_ok (p := p) (x := l.getD i 0) hd hlt hsm
  have e : stepL l i k = p ++ l.getD k 0 :: (big ++ l.getD i 0 :: small).reverse := by
    have := stepL_form (p := p) (big := big) (small := small) (x := l.getD i 0) (y := l.getD k 0)
    rw [h3, ← h1, h2] at this
    exact this
  rw [e]
  rw [← h1] at hn
  exact hn
/-- a place in front of a falling part, not less than all that follows -/
theorem fall_more {l : List Int} {i : Nat} (hf : Fall l (i + 1)) (hno : ∀ k, i < k → k < l.length → ¬ l.getD i 0 < l.getD k 0) (hnd : l.Nodup) : Fall l i := fun a b h1 h2 h3 => by
  by_cases h : a = i
  · subst h
    have := hno b h2 h3
    have hne : l.getD b 0 ≠ l.getD a 0 := by
      rw [getDi h3, getDi (show a < l.length by omega)]
      intro he
      have := (List.getElem_inj hnd).1 he
      omega
    omega
  · exact hf a b (by omega) h2 h3
/-! ### all orders are met -/
structure Met (l0 cur : List Int) (V : List (List Int)) : Prop where
  perm : cur.Perm l0
  sub : ∀ o ∈ V, o.Perm l0
  all : ∀ o : List Int, o.Perm l0 → lexB o cur = true → o ∈ V
theorem Met.start {l0 cur : List Int} (hp : cur.Perm l0) (hs : cur.Pairwise fun x y => x < y) : Met l0 cur [] :=
  ⟨hp, fun o h => (List.not_mem_nil h).elim, fun o ho hl => by rw [asc_min hs (ho.trans hp.symm)] at hl; cases hl⟩
theorem Met.step {l0 cur : List Int} {V : List (List Int)} (h : Met l0 cur V) {i k : Nat} (hik : i < k) (hk : k < cur.length) (hf : Fall cur (i + 1)) (hlt : cur.getD i 0 < cur.getD k 0) (hno : ∀ k', k < k' → k' < cur.length → ¬ cur.getD i 0 < cur.getD k' 0) (hnd : cur.Nodup) :
    Met l0 (stepL cur i k) (V ++ [cur]) := by
  obtain ⟨h1, h2, h3⟩ := step_ok hik hk hf hlt hno hnd
  refine ⟨h2.trans h.perm, fun o ho => ?_, fun o ho hl => ?_⟩
  · rcases List.mem_append.1 ho with ho | ho
    · exact h.sub o ho
    · rw [List.mem_singleton.1 ho]; exact h.perm
  · cases hc : lexB o cur with
    | true => exact List.mem_append_left _ (h.all o ho hc)
    | false =>
      cases hc2 : lexB cur o with
      | false => rw [lexB_tri hc hc2]; simp
      | true =>
        exfalso
        rcases h3 o (ho.trans h.perm.symm) hc2 with h4 | h4
        · rw [h4, lexB_irr] at hl; cases hl
        · rw [lexB_asym h4] at hl; cases hl
theorem Met.done {l0 cur : List Int} {V : List (List Int)} (h : Met l0 cur V) (hf : Fall cur 0) : ∀ o, o ∈ V ++ [cur] ↔ o.Perm l0 := fun o => by
  constructor
  · intro ho
    rcases List.mem_append.1 ho with ho | ho
    · exact h.sub o ho
    · rw [List.mem_singleton.1 ho]; exact h.perm
  · intro ho
    have hm := desc_max (by have := fall_drop hf; rwa [List.drop_zero] at this) (ho.trans h.perm.symm)
    cases hc : lexB o cur with
    | true => exact List.mem_append_left _ (h.all o ho hc)
    | false => rw [lexB_tri hc hm]; simp
/-! ### a number for an order -/
def encL : List Int → Nat
  | [] => 0
  | x :: l => x.toNat * 64 ^ l.length + encL l
theorem encL_lt : ∀ {l : List Int}, (∀ x ∈ l, 0 ≤ x ∧ x < 64) → encL l < 64 ^ l.length
  | [], _ => by simp [encL]
  | x :: l, h => by
    have ih := encL_lt (l := l) fun y hy => h y (List.mem_cons_of_mem _ hy)
    have hx := h x List.mem_cons_self
    rw [encL, List.length_cons, Nat.pow_succ, Nat.mul_comm (64 ^ l.length)]
    have : x.toNat ≤ 63 := by omega
    have := Nat.mul_le_mul_right (64 ^ l.length) this
    omega
theorem encL_lex : ∀ {a b : List Int}, a.length = b.length → (∀ x ∈ a, 0 ≤ x ∧ x < 64) → (∀ x ∈ b, 0 ≤ x ∧ x < 64) → lexB a b = true → encL a < encL b
  | [], [], _, _, _, h => by cases h
  | [], _ :: _, h, _, _, _ => by cases h
  | _ :: _, [], h, _, _, _ => by cases h
  | x :: a, y :: b, hl, ha, hb, h => by
    have hl' : a.length = b.length := by simpa using hl
    have hx := ha x List.mem_cons_self
    have hy := hb y List.mem_cons_self
    have ea := encL_lt (l := a) fun z hz => ha z (List.mem_cons_of_mem _ hz)
    rw [lexB] at h
    rw [encL, encL, hl']
    by_cases h1 : x < y
    · have h2 : x.toNat + 1 ≤ y.toNat := by omega
      have h3 := Nat.mul_le_mul_right (64 ^ b.length) h2
      rw [Nat.add_mul, Nat.one_mul] at h3
      rw [hl'] at ea
      omega
    · rw [if_neg h1] at h
      by_cases h2 : y < x
      · rw [if_pos h2] at h; cases h
      · rw [if_neg h2] at h
        have : x = y := by omega
        subst this
        have := encL_lex hl' (fun z hz => ha z (List.mem_cons_of_mem _ hz)) (fun z hz => hb z (List.mem_cons_of_mem _ hz)) h
        omega
end Go.Proofs.Ytfddebpeiilohaa

/-
  Plain: the best of the orders that were met.
-/
set_option linter.all false
namespace Go.Proofs.Ytfddebpeiilohaa
open Go Go.W Go.RowKit

section
variable (m d : List Int → Int) (F : List Int → Bool)
def visB (s : Option (List Int)) (o : List Int) : Option (List Int) := if F o = true then bet m d s (some o) else s
variable {m d F}
theorem IsBest.vis {C : List Int → Prop} {s : Option (List Int)} (h : IsBest m d C s) (o : List Int) : IsBest m d (fun x => C x ∨ (x = o ∧ F o = true)) (visB m d F s o) := by
  unfold visB
  by_cases hf : F o = true
  · rw [if_pos hf]
    exact (h.union (IsBest.one o)).congr fun x => by simp [hf]
  · rw [if_neg hf]
    exact h.congr fun x => by simp [hf]
theorem IsBest.fold : ∀ {V : List (List Int)} {C : List Int → Prop} {s : Option (List Int)}, IsBest m d C s → IsBest m d (fun x => C x ∨ (x ∈ V ∧ F x = true)) (V.foldl (visB m d F) s)
  | [], C, s, h => h.congr fun x => by simp
  | o :: V, C, s, h => by
    refine (IsBest.fold (V := V) (h.vis (F := F) o)).congr fun x => ?_
    simp only [List.mem_cons]
    constructor
    · rintro ((h | ⟨h, h2⟩) | h)
      · exact .inl h
      · exact .inr ⟨.inl h, by rw [h]; exact h2⟩
      · exact .inr ⟨.inr h.1, h.2⟩
    · rintro (h | ⟨h | h, h2⟩)
      · exact .inl (.inl h)
      · exact .inl (.inr ⟨h, by rw [← h]; exact h2⟩)
      · exact .inr ⟨h, h2⟩
end
end Go.Proofs.Ytfddebpeiilohaa
