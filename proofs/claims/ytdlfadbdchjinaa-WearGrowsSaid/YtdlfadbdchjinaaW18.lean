/-
  Sorting a slice of the call's own; the first that is enough.
-/
import Derived.Test.YtdlfadbdchjinaaW17
import Derived.Test.YtdlfadbdchjinaaSrt
import Derived.Sort.OwnSortedInts
set_option linter.all false
namespace Go.Proofs.Ytdlfadbdchjinaa
open Go Go.W Go.RowKit

def srt (l : List Int) : List Int := l.mergeSort fun x y => decide (x ≤ y)
theorem srt_perm (l : List Int) : (srt l).Perm l := List.mergeSort_perm l _
theorem srt_len (l : List Int) : (srt l).length = l.length := (srt_perm l).length_eq
theorem srt_sorted (l : List Int) : (srt l).Pairwise fun x y => x ≤ y := by
  have := List.pairwise_mergeSort (le := fun x y : Int => decide (x ≤ y)) (fun a b c h1 h2 => by simp at *; omega) (fun a b => by simp; omega) l
  exact this.imp fun h => by simpa using h
theorem sortOwn (g : Nat) (zs : List Int) (sp : List Value) (cap : Nat) (w0 : World) (hb : w0.heap[g]? = some (.cells (zs.map I ++ sp).toArray 3 (0, 0))) (hlen : zs.length ≤ 1000000) :
    Calls Try.prog 31 #[.slice (some ⟨g, 0, none⟩) zs.length cap] w0 fun e w' => e = .returned (.tuple #[]) ∧ SH w0 [g] w' [⟨g, 3, (srt zs).map I ++ sp⟩] := by
  have hg : g < w0.heap.size := (Array.getElem?_eq_some_iff.1 hb).1
  have hH : Sort.Holds (Value.int .i64) w0 g 0 zs.toArray := holds_of_blockI hb (by simp)
  refine (Try.slices_Sort_int g 0 cap zs w0 hH hg (by omega)).mono ?_
  rintro e w' ⟨rfl, n, os, rfl⟩
  have hgr := grownBy_sortedI (w := w0) (g := g) (n := n) (os := os) (srt zs).toArray
  have hh := heap_sortedI (w := w0) (n := n) (os := os) (srt zs).toArray hb
  have hl := srt_len zs
  have hcells : Sort.putCells (Value.int .i64) 0 (srt zs).toArray (zs.map I ++ sp).toArray = ((srt zs).map I ++ sp).toArray := by
    apply Array.ext_getElem?
    intro k
    simp only [Sort.putCells, Array.getElem?_mapIdx, List.getElem?_toArray]
    by_cases hk : k < zs.length
    · have h1 : k < (zs.map I).length := by simpa using hk
      have h2 : k < ((srt zs).map I).length := by simp; omega
      rw [List.getElem?_append_left h1, List.getElem?_append_left h2, List.getElem?_eq_getElem h1, List.getElem?_eq_getElem h2]
      simp [hl, hk, show k < (srt zs).length by omega]
    · rw [List.getElem?_append_right (by simp; omega), List.getElem?_append_right (by simp; omega)]
      simp only [List.length_map, hl]
      cases sp[k - zs.length]? with
      | none => rfl
      | some v => simp [hl, hk]
  rw [hcells] at hh
  exact ⟨rfl, hgr.os, hgr.tape, hgr.output, hgr.size, fun k hk hS => hgr.block k hk (by simp at hS; simpa using hS), fun b hb => by
    obtain rfl : b = ⟨g, 3, (srt zs).map I ++ sp⟩ := by simpa using hb
    exact hh, fun b hb => by
    obtain rfl : b = ⟨g, 3, (srt zs).map I ++ sp⟩ := by simpa using hb
    exact .inr (by simp), by simp⟩
/-- the least of T of which P holds -/
structure IsMin (P : Int → Bool) (T : List Int) (m : Int) : Prop where
  mem : m ∈ T
  ok : P m = true
  le : ∀ x ∈ T, P x = true → m ≤ x
theorem IsMin.unique {P : Int → Bool} {T T' : List Int} {m m' : Int} (h : IsMin P T m) (h' : IsMin P T' m') (he : ∀ x, x ∈ T ↔ x ∈ T') : m = m' := by
  have := h.le m' ((he m').2 h'.mem) h'.ok
  have := h'.le m ((he m).1 h.mem) h.ok
  omega
theorem find_min {P : Int → Bool} : ∀ {s : List Int}, s.Pairwise (fun x y => x ≤ y) → (∀ m, s.find? P = some m → IsMin P s m) ∧ (s.find? P = none → ∀ x ∈ s, P x = false)
  | [], _ => ⟨fun _ h => by simp at h, fun _ x h => by simp at h⟩
  | a :: s, hs => by
    rw [List.pairwise_cons] at hs
    have ih := find_min (P := P) hs.2
    cases hP : P a with
    | true =>
      rw [List.find?_cons_of_pos hP]
      refine ⟨fun m h => ?_, fun h => by simp at h⟩
      obtain rfl : a = m := by simpa using h
      refine ⟨by simp, hP, fun x hx _ => ?_⟩
      rcases List.mem_cons.1 hx with rfl | hx
      · exact Int.le_refl _
      · exact hs.1 x hx
    | false =>
      rw [List.find?_cons_of_neg (by rw [hP]; simp)]
      refine ⟨fun m h => ?_, fun h x hx => ?_⟩
      · have := ih.1 m h
        refine ⟨List.mem_cons_of_mem _ this.mem, this.ok, fun x hx hx2 => ?_⟩
        rcases List.mem_cons.1 hx with rfl | hx
        · rw [hP] at hx2; cases hx2
        · exact this.le x hx hx2
      · rcases List.mem_cons.1 hx with rfl | hx
        · exact hP
        · exact ih.2 h x hx
end Go.Proofs.Ytdlfadbdchjinaa
