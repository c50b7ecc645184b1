/-
  Plain: a day divided where the active fences change.
-/
import Derived.Test.YtkfklebaeifdnaaF12
set_option linter.all false
namespace Go.Proofs.Ytkfklebaeifdnaa
open Go Go.W Go.RowKit

inductive Parts (P : Int → Prop) (e : Int) : Int → List Wi → Prop
  | last {a : Int} (h : a < e) (hn : ∀ t, a < t → t < e → ¬ P t) : Parts P e a [(a, e)]
  | cons {a b : Int} {l : List Wi} (h : a < b) (h2 : b < e) (hp : P b) (hn : ∀ t, a < t → t < b → ¬ P t) (ht : Parts P e b l) : Parts P e a ((a, b) :: l)
theorem Parts.lt {P : Int → Prop} {e a : Int} {l : List Wi} (h : Parts P e a l) : a < e := by cases h <;> omega
theorem Parts.unique {P : Int → Prop} {e a : Int} {l : List Wi} (h : Parts P e a l) : ∀ {l' : List Wi}, Parts P e a l' → l = l' := by
  induction h with
  | last h hn =>
    intro l' h'
    cases h' with
    | last _ _ => rfl
    | cons h1 h2 hp _ _ => exact absurd hp (hn _ h1 h2)
  | cons h h2 hp hn ht ih =>
    intro l' h'
    cases h' with
    | last _ hn' => exact absurd hp (hn' _ h h2)
    | cons h1 h3 hp' hn' ht' =>
      rename_i b l b' l'
      obtain rfl : b = b' := by
        rcases Int.lt_trichotomy b b' with hb | hb | hb
        · exact absurd hp (hn' _ h hb)
        · exact hb
        · exact absurd hp' (hn _ h1 hb)
      rw [ih ht']
theorem Parts.snoc {P : Int → Prop} {b c a : Int} {l : List Wi} (h : Parts P b a l) (hp : P b) (hc : b < c) (hn : ∀ t, b < t → t < c → ¬ P t) : Parts P c a (l ++ [(b, c)]) := by
  induction h with
  | last h hn1 => exact Parts.cons h hc hp hn1 (Parts.last hc hn)
  | cons h h2 hp1 hn1 _ ih => exact Parts.cons h (by omega) hp1 hn1 ih
def setTo : List Wi → Int → List Wi
  | [], _ => []
  | [x], c => [(x.1, c)]
  | x :: y :: l, c => x :: setTo (y :: l) c
theorem setTo_len : ∀ (l : List Wi) (c : Int), (setTo l c).length = l.length
  | [], _ => rfl
  | [_], _ => rfl
  | x :: y :: l, c => by rw [setTo, List.length_cons, setTo_len (y :: l) c]; simp
theorem setTo_set : ∀ (l : List Wi) (c : Int) (h : 0 < l.length), setTo l c = l.set (l.length - 1) ((l[l.length - 1]'(by omega)).1, c)
  | [], _, h => absurd h (by simp)
  | [x], c, _ => rfl
  | x :: y :: l, c, _ => by
    rw [setTo, setTo_set (y :: l) c (by simp)]
    simp
theorem Parts.ext {P : Int → Prop} {b c a : Int} {l : List Wi} (h : Parts P b a l) (hp : ¬ P b) (hc : b < c) (hn : ∀ t, b < t → t < c → ¬ P t) : Parts P c a (setTo l c) := by
  induction h with
  | last h hn1 =>
    refine Parts.last (by omega) fun t h1 h2 => ?_
    rcases Int.lt_trichotomy t b with hb | hb | hb
    · exact hn1 t h1 hb
    · rw [hb]; exact hp
    · exact hn t hb h2
  | cons h h2 hp1 hn1 ht ih =>
    cases ht with
    | last _ _ => exact Parts.cons h (by omega) hp1 hn1 ih
    | cons _ _ _ _ _ => exact Parts.cons h (by omega) hp1 hn1 ih
/-- the start of the last window -/
theorem Parts.lastAt {P : Int → Prop} {e a : Int} {l : List Wi} (h : Parts P e a l) : ∃ h0 : 0 < l.length, a ≤ (l[l.length - 1]'(by omega)).1 ∧ (l[l.length - 1]'(by omega)).1 < e ∧ ∀ t, (l[l.length - 1]'(by omega)).1 < t → t < e → ¬ P t := by
  induction h with
  | last h hn => exact ⟨by simp, by simp, by simpa using h, by simpa using hn⟩
  | cons h h2 hp hn ht ih =>
    rename_i a b l
    obtain ⟨h0, h1, h3, h4⟩ := ih
    have e : ∀ hh, (((a, b) :: l)[((a, b) :: l).length - 1]'hh) = l[l.length - 1]'(by omega) := fun hh => by
      simp only [List.length_cons, Nat.add_sub_cancel]
      rw [List.getElem_cons, dif_neg (by omega)]
    refine ⟨by simp, ?_, ?_, ?_⟩
    · rw [e]; omega
    · rw [e]; exact h3
    · rw [e]; exact h4
theorem Parts.cnt {P : Int → Prop} {e a : Int} {l : List Wi} (h : Parts P e a l) : (l.length : Int) ≤ e - a := by
  induction h with
  | last h _ => simp; omega
  | cons h h2 _ _ _ ih => simp only [List.length_cons]; omega
/-! ### the moments at which other fences become active -/
def Chg (fs : List Fen) (t : Int) : Prop := differB fs (t - 1) t = true
theorem differ_iff {fs : List Fen} {a b : Int} : differB fs a b = true ↔ ∃ f ∈ fs, activeB f a ≠ activeB f b := by
  unfold differB; simp
def endsL (first : Int) (fs : List Fen) : List Int := fs.flatMap fun f => [f.wf, f.wt, first + f.hf, first + f.ht]
theorem mem_ends {first : Int} {fs : List Fen} {t : Int} : t ∈ endsL first fs ↔ ∃ f ∈ fs, t = f.wf ∨ t = f.wt ∨ t = first + f.hf ∨ t = first + f.ht := by
  unfold endsL; simp
theorem act_at {f : Fen} {first t : Int} {d : Int} (hd : first = d * 86400) (h0 : 0 ≤ d ∧ d ≤ 49709) (h1 : first ≤ t) (h2 : t < first + 86400) : activeB f t = true ↔ (f.wf ≤ t ∧ t < f.wt) ∧ f.hf ≤ t - first ∧ t - first < f.ht := by
  have hm : t % 86400 = t - first := by omega
  unfold activeB inW
  rw [hm]
  simp only [Bool.and_eq_true, decide_eq_true_eq]
  omega
theorem chg_end {fs : List Fen} {first t d : Int} (hd : first = d * 86400) (h0 : 0 ≤ d ∧ d ≤ 49709) (h1 : first < t) (h2 : t < first + 86400) (h : Chg fs t) : t ∈ endsL first fs := by
  obtain ⟨f, hf, hne⟩ := differ_iff.1 h
  refine mem_ends.2 ⟨f, hf, ?_⟩
  have a1 := act_at (f := f) hd h0 (show first ≤ t - 1 by omega) (by omega)
  have a2 := act_at (f := f) hd h0 (show first ≤ t by omega) (by omega)
  have hx : ¬ (activeB f (t - 1) = true ↔ activeB f t = true) := fun hh => hne (by rw [Bool.eq_iff_iff]; exact hh)
  rw [a1, a2] at hx
  omega
theorem same_on {fs : List Fen} {a c : Int} (h : a < c) (hn : ∀ t, a < t → t < c → ¬ Chg fs t) : ∀ f ∈ fs, activeB f a = activeB f (c - 1) := by
  obtain ⟨k, hk⟩ : ∃ k : Nat, c = a + 1 + k := ⟨(c - a - 1).toNat, by omega⟩
  induction k generalizing c with
  | zero => intro f _; rw [show c - 1 = a by omega]
  | succ k ih =>
    intro f hf
    rw [ih (c := c - 1) (by omega) (fun t h1 h2 => hn t h1 (by omega)) (by omega) f hf]
    have := hn (c - 1) (by omega) (by omega)
    cases hb : decide (activeB f (c - 1 - 1) = activeB f (c - 1)) with
    | true => simpa using hb
    | false => exact absurd (differ_iff.2 ⟨f, hf, by simpa using hb⟩) this
def actL (fs : List Fen) (t : Int) : List Int := idxF (fun f => activeB f t) fs fs.length
theorem actL_eq {fs : List Fen} {a b : Int} : actL fs a = actL fs b ↔ ∀ f ∈ fs, activeB f a = activeB f b := by
  constructor
  · intro h f hf
    obtain ⟨i, hi, rfl⟩ := List.mem_iff_getElem.1 hf
    have h1 := mem_idxF (q := fun f => activeB f a) (fs := fs) (j := fs.length) (i := i)
    have h2 := mem_idxF (q := fun f => activeB f b) (fs := fs) (j := fs.length) (i := i)
    unfold actL at h
    rw [h] at h1
    rw [getDf hi] at h1 h2
    rw [Bool.eq_iff_iff]
    have h3 := h1.symm.trans h2
    simpa [hi] using h3
  · intro h
    unfold actL idxF
    congr 1
    refine List.filter_congr fun i hi => ?_
    have hi : i < fs.length := List.mem_range.1 hi
    rw [getDf hi]
    exact h _ (List.getElem_mem hi)
/-- at a cut: the same fences as at the start of the last window, if and only if nothing changes there -/
theorem cut_iff {fs : List Fen} {a c : Int} (h : a < c) (hn : ∀ t, a < t → t < c → ¬ Chg fs t) : actL fs a = actL fs c ↔ ¬ Chg fs c := by
  have hs := same_on h hn
  rw [actL_eq]
  constructor
  · intro h1 hc
    obtain ⟨f, hf, hne⟩ := differ_iff.1 hc
    exact hne (by rw [← hs f hf, h1 f hf])
  · intro h1 f hf
    rw [hs f hf]
    cases hb : decide (activeB f (c - 1) = activeB f c) with
    | true => simpa using hb
    | false => exact absurd (differ_iff.2 ⟨f, hf, by simpa using hb⟩) h1
/-- there is a division -/
theorem parts_exist {P : Int → Prop} {e : Int} : ∀ {a : Int}, a < e → ∃ l, Parts P e a l := fun {a} h => by
  obtain ⟨k, hk⟩ : ∃ k : Nat, e = a + 1 + k := ⟨(e - a - 1).toNat, by omega⟩
  induction k generalizing a with
  | zero => exact ⟨_, Parts.last h fun t h1 h2 => by omega⟩
  | succ k ih =>
    obtain ⟨l, hl⟩ := ih (a := a + 1) (by omega) (by omega)
    by_cases hp : P (a + 1)
    · exact ⟨_, Parts.cons (by omega) (by omega) hp (fun t h1 h2 => by omega) hl⟩
    · cases hl with
      | last h1 hn => exact ⟨_, Parts.last (by omega) fun t h2 h3 => by
          by_cases ht : t = a + 1
          · rw [ht]; exact hp
          · exact hn t (by omega) h3⟩
      | cons h1 h2 hp2 hn ht => exact ⟨_, Parts.cons (by omega) h2 hp2 (fun t h3 h4 => by
          by_cases ht : t = a + 1
          · rw [ht]; exact hp
          · exact hn t (by omega) h4) ht⟩
/-- sorted cuts -/
theorem cmpT_mem {zs : List Int} : ∀ {i : Nat}, i ≤ zs.length → ∀ x, x ∈ cmpT zs i ↔ x ∈ zs.take i
  | 0, _, x => by simp [cmpT]
  | i + 1, hi, x => by
    have ih := cmpT_mem (zs := zs) (i := i) (by omega) x
    rw [cmpT, List.mem_append, ih, List.take_succ_eq_append_getElem (show i < zs.length by omega), List.mem_append, getI (show i < zs.length by omega)]
    by_cases hc : 0 < i ∧ zs[i] = zs.getD (i - 1) 0
    · rw [if_pos hc]
      simp only [List.not_mem_nil, or_false, List.mem_singleton]
      refine ⟨.inl, fun h => ?_⟩
      rcases h with h | h
      · exact h
      · rw [h, hc.2, getI (show i - 1 < zs.length by omega)]
        exact List.mem_take_iff_getElem.2 ⟨i - 1, by omega, rfl⟩
    · rw [if_neg hc]
theorem cmpT_sorted {zs : List Int} (hs : zs.Pairwise fun x y => x ≤ y) : ∀ {i : Nat}, i ≤ zs.length → (cmpT zs i).Pairwise fun x y => x < y
  | 0, _ => by simp [cmpT]
  | i + 1, hi => by
    rw [cmpT, List.pairwise_append]
    refine ⟨cmpT_sorted hs (by omega), by split <;> simp, fun x hx y hy => ?_⟩
    rw [cmpT_mem (by omega)] at hx
    split at hy
    · cases hy
    · rename_i hc
      rw [getI (show i < zs.length by omega)] at hc hy
      rw [List.mem_singleton.1 hy]
      obtain ⟨j, hj, rfl⟩ := List.mem_take_iff_getElem.1 hx
      have hp := List.pairwise_iff_getElem.1 hs
      have h1 : zs[j] ≤ zs[i - 1]'(by omega) := by
        by_cases hji : j = i - 1
        · subst hji; exact Int.le_refl _
        · exact hp j (i - 1) (by omega) (by omega) (by omega)
      have h2 : zs[i - 1]'(by omega) ≤ zs[i] := hp (i - 1) i (by omega) (by omega) (by omega)
      rw [getI (show i - 1 < zs.length by omega)] at hc
      have : ¬ zs[i] = zs[i - 1]'(by omega) := fun h => hc ⟨by omega, h⟩
      omega
end Go.Proofs.Ytkfklebaeifdnaa
