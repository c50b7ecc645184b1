/-
  Lists of rows as sources of append; permutations of blocks by counting.
-/
import Derived.Test.YtfddebpeiilohaaElems
set_option linter.all false
namespace Go.W
open Go.RowKit
open Classical in
theorem sumCount {α : Type} (l : List α) (x : α) : (l.map fun a => if a = x then 1 else 0).sum = l.count x := by
  induction l with
  | nil => rfl
  | cons a l ih =>
    rw [List.map_cons, List.sum_cons, ih, List.count_cons]
    by_cases h : a = x <;> simp [h] <;> omega
open Classical in
theorem permBy {α : Type} {l l' : List α} (h : ∀ f : α → Nat, (l.map f).sum = (l'.map f).sum) : l.Perm l' :=
  List.perm_iff_count.2 fun x => by rw [← sumCount, ← sumCount]; exact h _
theorem cellsApp {w : World} {b : Nat} : ∀ {vs us : List Value} {o : Nat}, cellsAt w b o vs → cellsAt w b (o + vs.length) us → cellsAt w b o (vs ++ us)
  | [], us, o, _, h => by simpa using h
  | v :: vs, us, o, h1, h2 => ⟨h1.1, cellsApp h1.2 (by rw [show o + 1 + vs.length = o + (v :: vs).length by simp; omega]; exact h2)⟩
theorem rowsCellsAt {α : Type} {sz : Nat} {enc : α → List Value} {w : World} (hsz : ∀ x, (enc x).length = sz) : ∀ (l : List α) {b : Nat} (o : Nat), RowsAt sz enc w (some ⟨b, o, none⟩) l → cellsAt w b o (l.flatMap enc)
  | [], _, _, _ => trivial
  | x :: l, b, o, h => by
    rw [List.flatMap_cons]
    have h0 := h 0 (by simp)
    obtain ⟨b0, o0, e, h1⟩ := h0
    cases e
    refine cellsApp (by simpa using h1) ?_
    rw [hsz]
    refine rowsCellsAt hsz l (o + sz) fun k hk => ?_
    obtain ⟨b1, o1, e1, h2⟩ := h (k + 1) (by simpa using hk)
    cases e1
    refine ⟨_, _, rfl, ?_⟩
    rw [show o + sz + k * sz = o + (k + 1) * sz by rw [Nat.succ_mul]; omega]
    simpa using h2
theorem rowsFrom {α : Type} {sz : Nat} {enc : α → List Value} {w : World} {A : Option Addr} {l : List α} (hsz : ∀ x, (enc x).length = sz) (h : RowsAt sz enc w A l) : l.length = 0 ∨ ∃ b o, A = some ⟨b, o, none⟩ ∧ cellsAt w b o (l.flatMap enc) := by
  rcases Nat.eq_zero_or_pos l.length with h0 | h0
  · exact .inl h0
  · obtain ⟨b, o, rfl, _⟩ := h 0 h0
    exact .inr ⟨b, o, rfl, rowsCellsAt hsz l o h⟩
theorem rowsOne {α : Type} {enc : α → List Value} (he : ∀ x, ((enc x).all (·.oneCell')) = true) (l : List α) : ((l.flatMap enc).all (·.oneCell')) = true := by
  rw [List.all_eq_true]
  intro v hv
  obtain ⟨x, _, hx⟩ := List.mem_flatMap.1 hv
  exact List.all_eq_true.1 (he x) v hx
theorem OwnS.mt {g el sz : Nat} : OwnS (some ⟨g, 0, none⟩) 0 0 [] el sz [⟨g, el, []⟩] := ⟨by simp, .inr ⟨g, [], rfl, rfl, Nat.le_refl _, by unfold maxLen; omega, by simp⟩⟩
end Go.W
