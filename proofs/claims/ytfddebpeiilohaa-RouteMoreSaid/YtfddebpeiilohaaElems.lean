/-
  Own blocks that hold rows of several cells: reading and writing an element.
-/
import Derived.Test.YtfddebpeiilohaaBase
set_option linter.all false
namespace Go.W
open Go.RowKit
section
variable {α : Type} {enc : α → List Value} {sz : Nat}
theorem rows_length (hsz : ∀ x, (enc x).length = sz) (l : List α) : (l.flatMap enc).length = l.length * sz := by
  induction l with
  | nil => simp
  | cons x l ih => simp only [List.flatMap_cons, List.length_append, hsz, ih, List.length_cons, Nat.succ_mul]; omega
theorem rows_get (hsz : ∀ x, (enc x).length = sz) : ∀ (l : List α) (k j : Nat) (hk : k < l.length), j < sz → (l.flatMap enc)[k * sz + j]? = (enc (l[k]'hk))[j]?
  | [], _, _, hk, _ => by simp at hk
  | x :: l, 0, j, _, hj => by
    simp only [List.flatMap_cons, Nat.zero_mul, Nat.zero_add, List.getElem_cons_zero]
    rw [List.getElem?_append_left (by rw [hsz]; exact hj)]
  | x :: l, k + 1, j, hk, hj => by
    simp only [List.flatMap_cons, List.getElem_cons_succ]
    rw [List.getElem?_append_right (by rw [hsz, Nat.succ_mul]; omega), hsz, show (k + 1) * sz + j - sz = k * sz + j by rw [Nat.succ_mul]; omega]
    exact rows_get hsz l k j (by simpa using hk) hj
theorem putL_append_right (pre : List Value) : ∀ (vs cs : List Value) (k : Nat), putL (pre ++ cs) (pre.length + k) vs = pre ++ putL cs k vs
  | [], _, _ => rfl
  | v :: vs, cs, k => by
    rw [putL, putL, List.set_append_right _ _ (by omega), show pre.length + k - pre.length = k by omega, show pre.length + k + 1 = pre.length + (k + 1) by omega]
    exact putL_append_right pre vs _ _
theorem putL_whole : ∀ (vs old : List Value) (post : List Value), old.length = vs.length → putL (old ++ post) 0 vs = vs ++ post
  | [], [], _, _ => rfl
  | v :: vs, u :: old, post, h => by
    rw [putL]
    have := putL_append_right [v] vs (old ++ post) 0
    simp only [List.cons_append, List.set_cons_zero, List.nil_append, List.length_cons, List.length_nil, Nat.zero_add, Nat.add_zero] at this ⊢
    rw [this, putL_whole vs old post (by simpa using h)]
  | [], _ :: _, _, h => by simp at h
  | _ :: _, [], _, h => by simp at h
theorem putL_rows (hsz : ∀ x, (enc x).length = sz) : ∀ (l : List α) (k : Nat) (x : α), k < l.length → putL (l.flatMap enc) (k * sz) (enc x) = (l.set k x).flatMap enc
  | [], _, _, h => by simp at h
  | y :: l, 0, x, _ => by
    simp only [List.flatMap_cons, Nat.zero_mul, List.set_cons_zero]
    exact putL_whole _ _ _ (by rw [hsz, hsz])
  | y :: l, k + 1, x, h => by
    simp only [List.flatMap_cons, List.set_cons_succ]
    rw [show (k + 1) * sz = (enc y).length + k * sz by rw [hsz, Nat.succ_mul]; omega, putL_append_right, putL_rows hsz l k x (by simpa using h)]
theorem rowsOwn {w0 w : World} {S : List Nat} {L : List Blk} (hsz : ∀ x, (enc x).length = sz) (H : SH w0 S w L) (i : Nat) {g : Nat} {T : TypeId} {l : List α} {post : List Value} (hi : L[i]? = some ⟨g, T, l.flatMap enc ++ post⟩) :
    RowsAt sz enc w (some ⟨g, 0, none⟩) l := fun k hk => ⟨g, 0, rfl, by
  refine cellsAt_own H i hi _ _ fun j hj => ?_
  rw [hsz] at hj
  have hlen := rows_length hsz l
  have hkk : k * sz + sz ≤ l.length * sz := by rw [← Nat.succ_mul]; exact Nat.mul_le_mul_right _ hk
  rw [Nat.zero_add, List.getElem?_append_left (by rw [hlen]; omega), rows_get hsz l k j hk hj, List.getElem?_eq_getElem]⟩
theorem rowsOwn' {w0 w : World} {S : List Nat} {L : List Blk} (hsz : ∀ x, (enc x).length = sz) (H : SH w0 S w L) (i : Nat) {g : Nat} {T : TypeId} {l : List α} (hi : L[i]? = some ⟨g, T, l.flatMap enc⟩) :
    RowsAt sz enc w (some ⟨g, 0, none⟩) l := rowsOwn (post := []) hsz H i (by simpa using hi)
theorem mkL_rows (n : Nat) (x : α) : mkL n (enc x) = (List.replicate n x).flatMap enc := by
  induction n with
  | zero => rfl
  | succ n ih => simp only [mkL, List.replicate_succ, List.flatten_cons, List.flatMap_cons] at ih ⊢; rw [ih]
theorem mkL_ones {enc1 : α → Value} (n : Nat) (x : α) : mkL n [enc1 x] = (List.replicate n x).map enc1 := by rw [mkL_one]; simp
end
theorem OwnS.rows {α : Type} {enc : α → List Value} {sz : Nat} (hsz : ∀ x, (enc x).length = sz) (hp : 0 < sz) {w0 w : World} {S : List Nat} {A : Option Addr} {cap n el : Nat} {l : List α} {R Lo : List Blk} (h : OwnS A cap n (l.flatMap enc) el sz Lo) (H : SH w0 S w (R ++ Lo)) :
    RowsAt sz enc w A l ∧ l.length = n := by
  have hl : l.length = n := by
    have := h.len
    rw [rows_length hsz] at this
    exact Nat.eq_of_mul_eq_mul_right hp this
  refine ⟨?_, hl⟩
  rcases h.form with ⟨rfl, h0, _, _⟩ | ⟨g, sp, rfl, rfl, _⟩
  · intro k hk; omega
  · exact rowsOwn (T := el) (post := sp) hsz H R.length (by simp)
theorem OwnS.ones {α : Type} {enc : α → Value} {w0 w : World} {S : List Nat} {A : Option Addr} {cap n el : Nat} {l : List α} {R Lo : List Blk} (h : OwnS A cap n (l.map enc) el 1 Lo) (H : SH w0 S w (R ++ Lo)) :
    OnesAt enc w A l ∧ l.length = n := by
  have hl : l.length = n := by simpa using h.len
  refine ⟨?_, hl⟩
  rcases h.form with ⟨rfl, h0, _, _⟩ | ⟨g, sp, rfl, rfl, _⟩
  · intro k hk; omega
  · exact OnesAt.own (b := ⟨g, el, l.map enc ++ sp⟩) H R.length (by simp) (post := sp) rfl
theorem onesOwn {α : Type} {enc : α → Value} {w0 w : World} {S : List Nat} {L : List Blk} (H : SH w0 S w L) (i : Nat) {g : Nat} {T : TypeId} {l : List α} (hi : L[i]? = some ⟨g, T, l.map enc⟩) : OnesAt enc w (some ⟨g, 0, none⟩) l :=
  OnesAt.own (b := ⟨g, T, l.map enc⟩) H i hi (post := []) (by simp)
/-- a store of one element -/
theorem putL_ones {α : Type} {enc : α → Value} (l : List α) (k : Nat) (x : α) : putL (l.map enc) k [enc x] = (l.set k x).map enc := by simp [putL, List.map_set]
end Go.W
