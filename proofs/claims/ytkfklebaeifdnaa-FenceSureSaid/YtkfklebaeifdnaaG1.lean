/-
  Plain: polygons; the program's check and the reference's say the same.
-/
import Derived.Test.YtkfklebaeifdnaaG0
set_option linter.all false
namespace Go.Proofs.Ytkfklebaeifdnaa
open Go Go.W Go.RowKit

instance : Inhabited Pt := ⟨⟨0, 0⟩⟩
instance : DecidableEq Pt := fun a b => decidable_of_iff (a.x = b.x ∧ a.y = b.y) (by cases a; cases b; simp)
structure Edge' where
  a : Pt
  b : Pt
instance : Inhabited Edge' := ⟨⟨default, default⟩⟩
def ptOk (p : Pt) : Bool := decide (-16384 ≤ p.x) && decide (p.x ≤ 16384) && decide (-16384 ≤ p.y) && decide (p.y ≤ 16384)
def edgeAt (l : List Pt) (i : Nat) : Edge' := ⟨l.getD i default, l.getD ((i + 1) % l.length) default⟩
def edgesL (l : List Pt) : List Edge' := (List.range l.length).map (edgeAt l)
theorem edgesL_len (l : List Pt) : (edgesL l).length = l.length := by simp [edgesL]
theorem edgesL_get {l : List Pt} {i : Nat} (h : i < (edgesL l).length) : (edgesL l)[i] = edgeAt l i := by simp [edgesL]
/-- two edges that must not be so: k is less than i -/
def badP (n i k : Nat) (e f : Edge') : Bool := if k + 1 = i then foldB f.a f.b e.b else if k = 0 ∧ i + 1 = n then foldB e.a e.b f.b else meetP e.a e.b f.a f.b
def simpleB (E : List Edge') : Bool := (List.range E.length).all fun i => !decide ((E.getD i default).a = (E.getD i default).b) && (List.range i).all fun k => !badP E.length i k (E.getD i default) (E.getD k default)
/-- the reference's word; i is less than k -/
def apartB (n i k : Nat) (e f : Edge') : Bool := if k = i + 1 then !hasB e.b e.a f.b && !hasB e.b f.b e.a else if i = 0 ∧ k + 1 = n then !hasB e.a e.b f.a && !hasB e.a f.a e.b else !meetR e.a e.b f.a f.b
theorem meetP_symm (a b c d : Pt) : meetP a b c d = meetP c d a b := by
  unfold meetP
  generalize hasB a b c = p; generalize hasB a b d = q; generalize hasB c d a = r; generalize hasB c d b = s
  generalize decide (sgn (crs a b c) = sgn (crs a b d)) = u; generalize decide (sgn (crs c d a) = sgn (crs c d b)) = v
  cases p <;> cases q <;> cases r <;> cases s <;> cases u <;> cases v <;> rfl
/-- pair by pair the same, if no edge is a point -/
theorem pair_eq {l : List Pt} {i k : Nat} (h3 : 3 ≤ l.length) (hi : i < l.length) (hk : k < i) (d1 : (edgeAt l i).a ≠ (edgeAt l i).b) (d2 : (edgeAt l k).a ≠ (edgeAt l k).b) :
    badP l.length i k (edgeAt l i) (edgeAt l k) = !apartB l.length k i (edgeAt l k) (edgeAt l i) := by
  unfold badP apartB
  by_cases h1 : k + 1 = i
  · have e : (edgeAt l k).b = (edgeAt l i).a := by
      unfold edgeAt; simp only; rw [Nat.mod_eq_of_lt (by omega), h1]
    rw [if_pos h1, if_pos h1.symm, fold_on d2 (by rw [e]; exact d1.symm)]
    cases hasB (edgeAt l k).b (edgeAt l k).a (edgeAt l i).b <;> cases hasB (edgeAt l k).b (edgeAt l i).b (edgeAt l k).a <;> rfl
  · rw [if_neg h1, if_neg (show ¬ i = k + 1 by omega)]
    by_cases h2 : k = 0 ∧ i + 1 = l.length
    · rw [if_pos h2, if_pos h2]
      have e : (edgeAt l i).b = (edgeAt l k).a := by
        unfold edgeAt; simp only; rw [h2.2, Nat.mod_self, h2.1]
      have hf := fold_on (a := (edgeAt l i).a) (b := (edgeAt l i).b) (d := (edgeAt l k).b) d1 (by rw [e]; exact d2.symm)
      rw [hf, e]
      cases hasB (edgeAt l k).a (edgeAt l i).a (edgeAt l k).b <;> cases hasB (edgeAt l k).a (edgeAt l k).b (edgeAt l i).a <;> rfl
    · rw [if_neg h2, if_neg h2, ← meet_eq, meetP_symm, Bool.not_not]
def refSimple (l : List Pt) : Bool := (List.range l.length).all fun i => !decide ((edgeAt l i).a = (edgeAt l i).b) && (List.range l.length).all fun k => !(decide (i < k)) || apartB l.length i k (edgeAt l i) (edgeAt l k)
theorem edges_getD {l : List Pt} {i : Nat} (h : i < l.length) : (edgesL l).getD i default = edgeAt l i := by
  rw [List.getD_eq_getElem?_getD, List.getElem?_eq_getElem (by rw [edgesL_len]; exact h), edgesL_get]; rfl
theorem simple_eq {l : List Pt} (h3 : 3 ≤ l.length) : simpleB (edgesL l) = refSimple l := by
  rw [Bool.eq_iff_iff]
  unfold simpleB refSimple
  rw [List.all_eq_true, List.all_eq_true]
  simp only [edgesL_len, List.mem_range, Bool.and_eq_true, List.all_eq_true, Bool.not_eq_true', decide_eq_false_iff_not, Bool.or_eq_true]
  constructor
  · intro h i hi
    have h0 := h i hi
    rw [edges_getD hi] at h0
    refine ⟨h0.1, fun k hk => ?_⟩
    by_cases hik : i < k
    · right
      have h2 := h k hk
      rw [edges_getD hk] at h2
      have h4 := h2.2 i hik
      rw [edges_getD hi, pair_eq h3 hk hik h2.1 h0.1] at h4
      simpa using h4
    · exact .inl hik
  · intro h i hi
    have h0 := h i hi
    rw [edges_getD hi]
    refine ⟨h0.1, fun k hk => ?_⟩
    have h2 := h k (by omega)
    rw [edges_getD (show k < l.length by omega), pair_eq h3 hi hk h0.1 h2.1]
    rcases h2.2 i hi with h4 | h4
    · exact absurd hk h4
    · rw [h4]; rfl
def twiceL : List Edge' → Int
  | [] => 0
  | e :: l => (e.a.x * e.b.y - e.a.y * e.b.x) + twiceL l
def polyErr (l : List Pt) : Int := if l.length < 3 ∨ 32 < l.length then 3 else if l.all ptOk = false then 1 else if simpleB (edgesL l) = false then 16 else if twiceL (edgesL l) < 0 then 9 else 0
/-- does the ray to the right of c cross the edge? -/
def flipB (e : Edge') (c : Pt) : Bool := (!(decide (c.y < e.a.y) == decide (c.y < e.b.y))) && (decide (0 < crs e.a e.b c) == decide (e.a.y < e.b.y))
def whereV (c : Pt) : Int → List Edge' → Int
  | o, [] => o
  | o, e :: l => if hasB e.a e.b c = true then 0 else whereV c (if flipB e c = true then -o else o) l
def flipR (e : Edge') (c : Pt) : Bool := ((decide (e.a.y ≤ c.y) && decide (c.y < e.b.y)) && decide (0 < sgn (crs e.a e.b c))) || ((decide (e.b.y ≤ c.y) && decide (c.y < e.a.y)) && decide (sgn (crs e.a e.b c) < 0))
theorem sgn_pos (n : Int) : 0 < sgn n ↔ 0 < n := by unfold sgn; split <;> (try split) <;> omega
theorem sgn_neg (n : Int) : sgn n < 0 ↔ n < 0 := by unfold sgn; split <;> (try split) <;> omega
theorem flip_eq {e : Edge'} {c : Pt} (h : hasB e.a e.b c = false) : flipB e c = flipR e c := by
  unfold flipB flipR
  have h0 : crs e.a e.b c = 0 → e.b.y ≤ c.y → c.y < e.a.y → False := fun h0 h1 h2 => by
    have h5 : (e.a.x - c.x) * (e.b.y - c.y) = (e.a.y - c.y) * (e.b.x - c.x) := by unfold crs at h0; grind
    have hv : 0 < dotp c e.a e.b := by
      rcases Int.lt_or_le 0 (dotp c e.a e.b) with hh | hh
      · exact hh
      · rw [has_iff.2 ⟨h0, hh⟩] at h; cases h
    unfold dotp at hv
    have h4 : (e.a.y - c.y) * (e.b.y - c.y) ≤ 0 := Int.mul_nonpos_of_nonneg_of_nonpos (by omega) (by omega)
    have h6 : 0 < (e.a.x - c.x) * (e.b.x - c.x) := by omega
    -- (ax bx)(ay by) = (ax by)^2 >= 0
    have h7 : ((e.a.x - c.x) * (e.b.x - c.x)) * ((e.a.y - c.y) * (e.b.y - c.y)) = ((e.a.x - c.x) * (e.b.y - c.y)) * ((e.a.x - c.x) * (e.b.y - c.y)) := by
      rw [h5] ; grind
    have h8 := sq_nn ((e.a.x - c.x) * (e.b.y - c.y))
    by_cases hb : e.b.y = c.y
    · have h5' : (e.a.y - c.y) * (e.b.x - c.x) = 0 := by rw [← h5, hb]; simp
      rcases Int.mul_eq_zero.1 h5' with h5 | h5
      · omega
      · rw [h5] at h6; simp at h6
    · have h9 : (e.a.y - c.y) * (e.b.y - c.y) < 0 := Int.mul_neg_of_pos_of_neg (by omega) (by omega)
      have := Int.mul_neg_of_pos_of_neg h6 h9
      omega
  have s1 := sgn_pos (crs e.a e.b c)
  have s2 := sgn_neg (crs e.a e.b c)
  generalize sgn (crs e.a e.b c) = s at *
  generalize crs e.a e.b c = p at *
  rw [Bool.eq_iff_iff]
  simp only [Bool.and_eq_true, Bool.or_eq_true, decide_eq_true_eq, Bool.not_eq_true', beq_eq_false_iff_ne, ne_eq, beq_iff_eq, decide_eq_decide]
  by_cases q1 : c.y < e.a.y <;> by_cases q2 : c.y < e.b.y
  · simp [q1, q2]; try omega
  · have h0' : p ≠ 0 := fun h => h0 h (by omega) q1
    have q3 : ¬ e.a.y < e.b.y := by omega
    have q4 : e.b.y ≤ c.y := by omega
    simp [q1, q2, q3, q4]; omega
  · simp [q1, q2]; try omega
  · simp [q1, q2]; try omega
/-- the distance of a point from an edge, less r, times something -/
def cmpV (a b c : Pt) (r : Int) : Int := if dotp a b c ≤ 0 then dotp c a a - r * r else if dotp a b b ≤ dotp a b c then dotp c b b - r * r else crs a b c * crs a b c - r * r * dotp a b b
def leastV (c : Pt) (r : Int) : Int → List Edge' → Int
  | m, [] => m
  | m, e :: l => leastV c r (if sgn (cmpV e.a e.b c r) < m then sgn (cmpV e.a e.b c r) else m) l
theorem leastV_le {c : Pt} {r : Int} : ∀ {l : List Edge'} {m k : Int}, leastV c r m l ≤ k ↔ m ≤ k ∨ ∃ e ∈ l, sgn (cmpV e.a e.b c r) ≤ k
  | [], m, k => by simp [leastV]
  | e :: l, m, k => by
    rw [leastV, leastV_le]
    simp only [List.mem_cons, exists_eq_or_imp]
    split <;> constructor <;> intro h <;> grind
theorem sgn_le0 (n : Int) : sgn n ≤ 0 ↔ n ≤ 0 := by unfold sgn; split <;> (try split) <;> omega
theorem sgn_leN (n : Int) : sgn n ≤ -1 ↔ n < 0 := by unfold sgn; split <;> (try split) <;> omega
def touchV (l : List Pt) (c : Pt) (r : Int) : Bool := decide (0 ≤ whereV c (-1) (edgesL l)) || decide (leastV c r 1 (edgesL l) ≤ 0)
def coverV (l : List Pt) (c : Pt) (r : Int) : Bool := decide (0 ≤ whereV c (-1) (edgesL l)) && decide (0 ≤ leastV c r 1 (edgesL l))
theorem touch_ref (l : List Pt) (c : Pt) (r : Int) : touchV l c r = (decide (0 ≤ whereV c (-1) (edgesL l)) || (edgesL l).any fun e => decide (cmpV e.a e.b c r ≤ 0)) := by
  unfold touchV
  congr 1
  rw [Bool.eq_iff_iff, decide_eq_true_eq, leastV_le, List.any_eq_true]
  simp only [sgn_le0, decide_eq_true_eq]
  constructor
  · rintro (h | h)
    · omega
    · exact h
  · exact .inr
theorem cover_ref (l : List Pt) (c : Pt) (r : Int) : coverV l c r = (decide (0 ≤ whereV c (-1) (edgesL l)) && !((edgesL l).any fun e => decide (cmpV e.a e.b c r < 0))) := by
  unfold coverV
  congr 1
  rw [Bool.eq_iff_iff, decide_eq_true_eq, Bool.not_eq_true', List.any_eq_false]
  have := leastV_le (c := c) (r := r) (l := edgesL l) (m := 1) (k := -1)
  simp only [sgn_leN] at this
  simp only [decide_eq_true_eq]
  constructor
  · intro h e he hc
    have := this.2 (.inr ⟨e, he, hc⟩); omega
  · intro h
    rcases Int.lt_or_le (leastV c r 1 (edgesL l)) 0 with h1 | h1
    · rcases this.1 (by omega) with h2 | ⟨e, he, hc⟩
      · omega
      · exact absurd hc (h e he)
    · exact h1
/-- with a greater radius -/
theorem cmpV_mono {a b c : Pt} {r r' : Int} (h0 : 0 ≤ r) (h : r ≤ r') : cmpV a b c r' ≤ cmpV a b c r := by
  have h1 : r * r ≤ r' * r' := Int.mul_le_mul h h h0 (by omega)
  unfold cmpV
  split
  · omega
  · split
    · omega
    · rename_i h2 h3
      have := Int.mul_le_mul_of_nonneg_right h1 (show 0 ≤ dotp a b b by omega)
      omega
theorem touch_mono {l : List Pt} {c : Pt} {r r' : Int} (h0 : 0 ≤ r) (h : r ≤ r') (ht : touchV l c r = true) : touchV l c r' = true := by
  rw [touch_ref, Bool.or_eq_true] at ht ⊢
  rcases ht with ht | ht
  · exact .inl ht
  · right
    rw [List.any_eq_true] at ht ⊢
    obtain ⟨e, he, hc⟩ := ht
    exact ⟨e, he, by have := cmpV_mono (a := e.a) (b := e.b) (c := c) h0 h; simp at hc ⊢; omega⟩
theorem cover_mono {l : List Pt} {c : Pt} {r r' : Int} (h0 : 0 ≤ r) (h : r ≤ r') (ht : coverV l c r' = true) : coverV l c r = true := by
  rw [cover_ref, Bool.and_eq_true, Bool.not_eq_true', List.any_eq_false] at ht ⊢
  refine ⟨ht.1, fun e he hc => ht.2 e he ?_⟩
  have := cmpV_mono (a := e.a) (b := e.b) (c := c) h0 h
  simp at hc ⊢; omega
theorem cover_touch {l : List Pt} {c : Pt} {r : Int} (h : coverV l c r = true) : touchV l c r = true := by
  unfold coverV at h
  unfold touchV
  rw [Bool.and_eq_true] at h
  rw [h.1]; rfl
end Go.Proofs.Ytkfklebaeifdnaa
