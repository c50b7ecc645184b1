/-
  Lists that are being written, element by element.
-/
import Derived.Test.YtfddebpeiilohaaMore
set_option linter.all false
namespace Go.W
open Go.RowKit
theorem Ev.neqA {P : Program} {e : Env} {w : World} {ty t : TypeId} {x y : Operand} {t' : TypeId} {vs us : Array Value} {q : Bool} (hg : P.eqGuardType P.depth t = false) (hr : ∀ w, (Op.equal t (.agg vs) (.agg us)).run P w = .ok q w) (hx : ev e x = .agg vs) (hy : ev e y = .agg us) : Ev P e w ty (.binOp .neq t x y t') (.bool (!q)) :=
  ⟨fun w' _ o ho _ => by
    have hp : (program : Sem Program).run P w' = .ok P w' := rfl
    unfold execOp; rw [ho]; simp [hx, hy, eqGuard, binOp, hr, hp, hg]⟩
/-- the first j elements of l, the others of m -/
def mixL {α : Type} (l m : List α) (j : Nat) : List α := l.take j ++ m.drop j
theorem mixL_length {α : Type} {l m : List α} {j : Nat} (h : l.length = m.length) (hj : j ≤ l.length) : (mixL l m j).length = l.length := by simp [mixL]; omega
theorem mixL_zero {α : Type} (l m : List α) : mixL l m 0 = m := by simp [mixL]
theorem mixL_all {α : Type} {l m : List α} (h : l.length = m.length) : mixL l m l.length = l := by
  unfold mixL
  rw [List.take_length, List.drop_eq_nil_of_le (by omega), List.append_nil]
theorem mixL_get {α : Type} {l m : List α} {j : Nat} (h : l.length = m.length) (hj : j < l.length) : (mixL l m j)[j]? = m[j]? := by
  have e1 : (l.take j).length = j := by simp; omega
  unfold mixL
  rw [List.getElem?_append_right (by omega), e1]
  simp
theorem mixL_set {α : Type} {l m : List α} {j : Nat} (h : l.length = m.length) (hj : j < l.length) : (mixL l m j).set j (l[j]) = mixL l m (j + 1) := by
  have e1 : (l.take j).length = j := by simp; omega
  unfold mixL
  rw [List.set_append_right _ _ (by omega), e1, Nat.sub_self, List.drop_eq_getElem_cons (show j < m.length by omega), List.set_cons_zero, ← List.take_append_getElem hj, List.append_assoc]
  rfl
theorem OnesAt.atK {α : Type} {enc : α → Value} {w : World} {b o : Nat} {l : List α} (h : OnesAt enc w (some ⟨b, o, none⟩) l) {k : Nat} (hk : k < l.length) : w.cell? ⟨b, o + k, none⟩ = some (enc (l[k]'hk)) := by
  obtain ⟨b', o', h1, h2⟩ := h k hk
  cases h1; exact h2
theorem OnesAt.cells {α : Type} {enc : α → Value} {w : World} {b : Nat} : ∀ {o : Nat} {l : List α}, OnesAt enc w (some ⟨b, o, none⟩) l → cellsAt w b o (l.map enc)
  | _, [], _ => trivial
  | o, a :: l, h => ⟨h.atK (k := 0) (Nat.zero_lt_succ _), OnesAt.cells fun k hk => ⟨b, o + 1, rfl, by
      have := h.atK (k := k + 1) (by simpa using hk)
      rw [show o + 1 + k = o + (k + 1) by omega]; exact this⟩⟩
theorem Ev.convI {P : Program} {e : Env} {w : World} {ty s d : TypeId} {x : Operand} {k' : IntKind} {a : Int} (hs : ∀ w, (underlying s).run P w = .ok (.int k') w) (hd : ∀ w, (underlying d).run P w = .ok (.int .i64) w) (hx : ev e x = .int k' a) (h : fits a) : Ev P e w ty (.convert s d x) (.int .i64 a) := by
  have := Ev.conv (P := P) (w := w) (ty := ty) hs hd hx
  rwa [wrap_fits h] at this
/-- a store into a list that begins a block -/
theorem putL_pre {α : Type} {enc : α → Value} (l : List α) (post : List Value) (k : Nat) (x : α) (hk : k < l.length) : putL (l.map enc ++ post) k [enc x] = (l.set k x).map enc ++ post := by
  simp only [putL]
  rw [List.set_append_left _ _ (by simpa using hk), List.map_set]
theorem preCell {α : Type} {enc : α → Value} {w0 w : World} {S : List Nat} {L : List Blk} (H : SH w0 S w L) (i : Nat) {g : Nat} {T : TypeId} {l : List α} {post : List Value} (hi : L[i]? = some ⟨g, T, l.map enc ++ post⟩) {k : Nat} (hk : k < l.length) : w.cell? ⟨g, k, none⟩ = some (enc l[k]) :=
  H.ldL i hi k (by
    show (l.map enc ++ post)[k]? = _
    rw [List.getElem?_append_left (by simpa using hk), List.getElem?_map, List.getElem?_eq_getElem hk]; rfl)
end Go.W
