/-
  Plain law of a binary heap: what a step upwards and a step downwards keep.
-/
import Derived.Test.YtfddebpeiilohaaLists
set_option linter.all false
namespace Go.W

section
variable {α : Type} [Inhabited α]
def swapL (h : List α) (i k : Nat) : List α := (h.set i (h.getD k default)).set k (h.getD i default)
theorem swapL_length (h : List α) (i k : Nat) : (swapL h i k).length = h.length := by simp [swapL]
theorem swapL_perm {h : List α} {i k : Nat} (hi : i < h.length) (hk : k < h.length) : (swapL h i k).Perm h := by
  have : swapL h i k = (h.set i h[k]).set k h[i] := by simp [swapL, hi, hk]
  rw [this]
  exact List.set_set_perm hi hk
theorem swapL_at {h : List α} {i k j : Nat} (hi : i < h.length) (hk : k < h.length) : (swapL h i k).getD j default = if j = k then h.getD i default else if j = i then h.getD k default else h.getD j default := by
  simp only [swapL, List.getD_eq_getElem?_getD, List.getElem?_set, List.length_set]
  by_cases h1 : j = k
  · subst h1; simp [hk]
  · by_cases h2 : j = i
    · subst h2; simp [Ne.symm h1, h1, hi]
    · simp [Ne.symm h1, Ne.symm h2, h1, h2]
/-- a strict weak order -/
structure LtOk (lt : α → α → Bool) : Prop where
  asy : ∀ x y, lt x y = true → lt y x = false
  tra : ∀ x y z, lt y x = false → lt z y = false → lt z x = false
variable {lt : α → α → Bool}
abbrev leA (lt : α → α → Bool) (h : List α) (i k : Nat) : Prop := lt (h.getD k default) (h.getD i default) = false
theorem LtOk.refl (o : LtOk lt) (x : α) : lt x x = false := by
  cases h : lt x x with
  | false => rfl
  | true => have := o.asy x x h; rw [h] at this; cases this
/-- each entry but the first comes not before its parent -/
def HeapOk (lt : α → α → Bool) (h : List α) : Prop := ∀ k, 0 < k → k < h.length → leA lt h ((k - 1) / 2) k
structure UpOk (lt : α → α → Bool) (h : List α) (i : Nat) : Prop where
  lt' : i < h.length
  ord : ∀ k, 0 < k → k < h.length → k ≠ i → leA lt h ((k - 1) / 2) k
  skip : ∀ k, 0 < k → k < h.length → (k - 1) / 2 = i → 0 < i → leA lt h ((i - 1) / 2) k
structure DownOk (lt : α → α → Bool) (h : List α) (i : Nat) : Prop where
  ord : ∀ k, 0 < k → k < h.length → (k - 1) / 2 ≠ i → leA lt h ((k - 1) / 2) k
  skip : ∀ k, 0 < k → k < h.length → (k - 1) / 2 = i → 0 < i → leA lt h ((i - 1) / 2) k
theorem HeapOk.nil : HeapOk lt [] := fun k _ h => by simp at h
theorem getD_append_left {l m : List α} {k : Nat} (h : k < l.length) : (l ++ m).getD k default = l.getD k default := by
  simp [List.getElem?_append_left h]
theorem UpOk.start {h : List α} (hh : HeapOk lt h) (x : α) : UpOk lt (h ++ [x]) h.length := by
  refine ⟨by simp, fun k h0 h1 h2 => ?_, fun k h0 h1 h2 h3 => ?_⟩
  · simp only [List.length_append, List.length_cons, List.length_nil] at h1
    have hk : k < h.length := by omega
    unfold leA
    rw [getD_append_left hk, getD_append_left (by omega)]
    exact hh k h0 hk
  · simp only [List.length_append, List.length_cons, List.length_nil] at h1; omega
theorem UpOk.done {h : List α} {i : Nat} (hu : UpOk lt h i) (hd : i = 0 ∨ leA lt h ((i - 1) / 2) i) : HeapOk lt h := fun k h0 h1 => by
  by_cases hk : k = i
  · subst hk; rcases hd with rfl | hd
    · omega
    · exact hd
  · exact hu.ord k h0 h1 hk
theorem UpOk.step (o : LtOk lt) {h : List α} {i : Nat} (hu : UpOk lt h i) (h0 : 0 < i) (hb : lt (h.getD i default) (h.getD ((i - 1) / 2) default) = true) : UpOk lt (swapL h i ((i - 1) / 2)) ((i - 1) / 2) := by
  have hi := hu.lt'
  generalize hp : (i - 1) / 2 = p at *
  have hpl : p < h.length := by omega
  have hpi : p < i := by omega
  refine ⟨by rw [swapL_length]; exact hpl, fun k k0 k1 k2 => ?_, fun k k0 k1 k2 p0 => ?_⟩
  · rw [swapL_length] at k1
    unfold leA
    rw [swapL_at hi hpl, swapL_at hi hpl, if_neg k2]
    by_cases hki : k = i
    · subst hki
      rw [if_pos rfl, if_pos hp]
      exact o.asy _ _ hb
    · rw [if_neg hki]
      by_cases q1 : (k - 1) / 2 = p
      · rw [if_pos q1]
        have := hu.ord k k0 k1 hki
        unfold leA at this
        rw [q1] at this
        exact o.tra _ _ _ (o.asy _ _ hb) this
      · rw [if_neg q1]
        by_cases q2 : (k - 1) / 2 = i
        · rw [if_pos q2]
          have := hu.skip k k0 k1 q2 h0
          unfold leA at this
          rw [hp] at this
          exact this
        · rw [if_neg q2]
          exact hu.ord k k0 k1 hki
  · rw [swapL_length] at k1
    unfold leA
    have hpp : (p - 1) / 2 ≠ p := by omega
    have hppi : (p - 1) / 2 ≠ i := by omega
    rw [swapL_at hi hpl, swapL_at hi hpl, if_neg hpp, if_neg hppi, if_neg (show k ≠ p by omega)]
    have g1 := hu.ord p p0 hpl (by omega)
    by_cases hki : k = i
    · rw [if_pos hki]; exact g1
    · rw [if_neg hki]
      have g2 := hu.ord k k0 k1 hki
      unfold leA at g2
      rw [k2] at g2
      exact o.tra _ _ _ g1 g2
theorem DownOk.done {h : List α} {i : Nat} (hd : DownOk lt h i) (hc : ∀ k, 0 < k → k < h.length → (k - 1) / 2 = i → leA lt h i k) : HeapOk lt h := fun k h0 h1 => by
  by_cases hk : (k - 1) / 2 = i
  · rw [hk]; exact hc k h0 h1 hk
  · exact hd.ord k h0 h1 hk
theorem DownOk.step {h : List α} {i f : Nat} (hd : DownOk lt h i) (hi : i < h.length) (hf : f < h.length) (hf0 : 0 < f) (hp : (f - 1) / 2 = i) (hl : leA lt h f i)
    (hc : ∀ k, 0 < k → k < h.length → (k - 1) / 2 = i → leA lt h f k) : DownOk lt (swapL h i f) f := by
  have hfi : i < f := by omega
  refine ⟨fun k k0 k1 k2 => ?_, fun k k0 k1 k2 _ => ?_⟩
  · rw [swapL_length] at k1
    unfold leA
    rw [swapL_at hi hf, swapL_at hi hf, if_neg k2]
    by_cases q : (k - 1) / 2 = i
    · rw [if_pos q]
      by_cases hkf : k = f
      · rw [if_pos hkf]; exact hl
      · rw [if_neg hkf, if_neg (show k ≠ i by omega)]
        exact hc k k0 k1 q
    · rw [if_neg q, if_neg (show k ≠ f by intro he; subst he; exact q hp)]
      by_cases hki : k = i
      · subst hki
        rw [if_pos rfl]
        exact hd.skip f hf0 hf hp k0
      · rw [if_neg hki]; exact hd.ord k k0 k1 q
  · rw [swapL_length] at k1
    unfold leA
    rw [swapL_at hi hf, swapL_at hi hf, hp, if_neg (show i ≠ f by omega), if_pos rfl, if_neg (show k ≠ f by omega), if_neg (show k ≠ i by omega)]
    have := hd.ord k k0 k1 (by omega)
    unfold leA at this
    rw [k2] at this; exact this
theorem HeapOk.root (o : LtOk lt) {h : List α} (hh : HeapOk lt h) : ∀ k, k < h.length → leA lt h 0 k := by
  intro k
  induction k using Nat.strongRecOn with
  | _ k ih =>
    intro hk
    by_cases h0 : k = 0
    · subst h0; exact o.refl _
    · exact o.tra _ _ _ (ih ((k - 1) / 2) (by omega) (by omega)) (hh k (by omega) hk)
theorem HeapOk.root_le (o : LtOk lt) {x : α} {t : List α} (hh : HeapOk lt (x :: t)) : ∀ y ∈ x :: t, lt y x = false := by
  intro y hy
  obtain ⟨k, hk, rfl⟩ := List.mem_iff_getElem.1 hy
  have h2 : lt ((x :: t).getD k default) ((x :: t).getD 0 default) = false := hh.root o k hk
  have e1 : (x :: t).getD k default = (x :: t)[k] := by rw [List.getD_eq_getElem?_getD, List.getElem?_eq_getElem hk]; rfl
  rw [e1] at h2
  exact h2
/-- the heap without its first entry, the last one in its place -/
def popL (h : List α) : List α := (swapL h 0 (h.length - 1)).take (h.length - 1)
theorem popL_length (h : List α) : (popL h).length = h.length - 1 := by simp [popL, swapL_length]
theorem popL_at {h : List α} {j : Nat} (hj : j < h.length - 1) : (popL h).getD j default = if j = 0 then h.getD (h.length - 1) default else h.getD j default := by
  have e : (popL h).getD j default = (swapL h 0 (h.length - 1)).getD j default := by
    simp [popL, List.getElem?_take, hj]
  rw [e, swapL_at (by omega) (by omega), if_neg (by omega)]
theorem popL_perm {x : α} {t : List α} : (x :: popL (x :: t)).Perm (x :: t) := by
  have h1 := swapL_perm (h := x :: t) (i := 0) (k := t.length) (by simp) (by simp)
  refine List.Perm.trans ?_ h1
  have hlen : (swapL (x :: t) 0 t.length).length = t.length + 1 := by rw [swapL_length]; rfl
  have hlast : (swapL (x :: t) 0 t.length)[t.length]'(by omega) = x := by
    have := swapL_at (h := x :: t) (i := 0) (k := t.length) (j := t.length) (by simp) (by simp)
    simpa [hlen] using this
  have e : swapL (x :: t) 0 t.length = popL (x :: t) ++ [x] := by
    have h2 : swapL (x :: t) 0 t.length = (swapL (x :: t) 0 t.length).take t.length ++ (swapL (x :: t) 0 t.length).drop t.length := (List.take_append_drop _ _).symm
    rw [List.drop_eq_getElem_cons (by omega), hlast, List.drop_eq_nil_of_le (by omega)] at h2
    exact h2
  rw [e]
  exact (List.perm_append_comm (l₁ := [x])).trans (List.Perm.refl _) 
theorem DownOk.start {h : List α} (hh : HeapOk lt h) : DownOk lt (popL h) 0 := by
  refine ⟨fun k k0 k1 k2 => ?_, fun k _ _ _ h0 => by omega⟩
  rw [popL_length] at k1
  unfold leA
  rw [popL_at k1, popL_at (by omega), if_neg k2, if_neg (by omega)]
  exact hh k k0 (by omega)
/-- f is the first of the places i and those of its children that are less than k -/
structure FirstOk (lt : α → α → Bool) (h : List α) (i k f : Nat) : Prop where
  place : f = i ∨ (0 < f ∧ (f - 1) / 2 = i ∧ f < h.length)
  le : leA lt h f i
  all : ∀ j, 0 < j → j < h.length → (j - 1) / 2 = i → j < k → leA lt h f j
theorem FirstOk.start (o : LtOk lt) (h : List α) (i : Nat) : FirstOk lt h i (2 * i + 1) i := ⟨.inl rfl, o.refl _, fun j h0 _ h1 h2 => by omega⟩
theorem FirstOk.take (o : LtOk lt) {h : List α} {i k f : Nat} (hf : FirstOk lt h i k f) (h0 : 0 < k) (hk : k < h.length) (hp : (k - 1) / 2 = i) (hb : lt (h.getD k default) (h.getD f default) = true) : FirstOk lt h i (k + 1) k := by
  have hkf : leA lt h k f := o.asy _ _ hb
  refine ⟨.inr ⟨h0, hp, hk⟩, o.tra _ _ _ hkf hf.le, fun j j0 j1 j2 j3 => ?_⟩
  by_cases hj : j = k
  · subst hj; exact o.refl _
  · exact o.tra _ _ _ hkf (hf.all j j0 j1 j2 (by omega))
theorem FirstOk.keep {h : List α} {i k f : Nat} (hf : FirstOk lt h i k f) (hb : lt (h.getD k default) (h.getD f default) = false) : FirstOk lt h i (k + 1) f := by
  refine ⟨hf.place, hf.le, fun j j0 j1 j2 j3 => ?_⟩
  by_cases hj : j = k
  · subst hj; exact hb
  · exact hf.all j j0 j1 j2 (by omega)
theorem FirstOk.done {h : List α} {i k f : Nat} (hf : FirstOk lt h i k f) (hk : 2 * i + 2 < k ∨ h.length ≤ k) : ∀ j, 0 < j → j < h.length → (j - 1) / 2 = i → leA lt h f j := fun j j0 j1 j2 => hf.all j j0 j1 j2 (by omega)
end
end Go.W
