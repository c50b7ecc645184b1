/-
  Words for what arguments read as: lists of one-cell elements, lists of elements of several cells.
-/
import Derived.Test.YtfddebpeiilohaaFacts
import Derived.Test.YtfddebpeiilohaaHeld
set_option linter.all false
namespace Go.W
open Go.RowKit
abbrev I (n : Int) : Value := .int .i64 n
abbrev Bo (b : Bool) : Value := .bool b
/-- the slice of address A holds the list l, an element a cell -/
def OnesAt {α : Type} (enc : α → Value) (w : World) (A : Option Addr) (l : List α) : Prop := ∀ k (hk : k < l.length), ∃ b o, A = some ⟨b, o, none⟩ ∧ w.cell? ⟨b, o + k, none⟩ = some (enc (l[k]'hk))
theorem OnesAt.below {α : Type} {enc : α → Value} {w w' : World} {A : Option Addr} {l : List α} (h : OnesAt enc w A l) (hb : Below w.heap.size w w') : OnesAt enc w' A l := fun k hk => by
  obtain ⟨b, o, h1, h2⟩ := h k hk
  exact ⟨b, o, h1, cell_below hb h2⟩
theorem OnesAt.sh {α : Type} {enc : α → Value} {w0 w : World} {L : List Blk} {A : Option Addr} {l : List α} (h : OnesAt enc w0 A l) (H : SH w0 [] w L) : OnesAt enc w A l := fun k hk => by
  obtain ⟨b, o, h1, h2⟩ := h k hk
  exact ⟨b, o, h1, H.ld0 h2⟩
theorem OnesAt.nil {α : Type} {enc : α → Value} {w : World} {A : Option Addr} : OnesAt enc w A [] := fun k hk => absurd hk (by simp)
/-- an own block that begins with the list -/
theorem OnesAt.own {α : Type} {enc : α → Value} {w0 w : World} {S : List Nat} {L : List Blk} (H : SH w0 S w L) (i : Nat) {b : Blk} (hi : L[i]? = some b) {l : List α} {post : List Value} (hc : b.cs = l.map enc ++ post) :
    OnesAt enc w (some ⟨b.g, 0, none⟩) l := fun k hk => ⟨b.g, 0, rfl, by
  have h1 : b.cs[k]? = some (enc (l[k]'hk)) := by
    rw [hc, List.getElem?_append_left (by simpa using hk), List.getElem?_map, List.getElem?_eq_getElem hk]; rfl
  rw [Nat.zero_add]
  exact H.ldL i hi k h1⟩
abbrev IntsAt := OnesAt I
abbrev BoolsAt := OnesAt Bo
/-- the slice of address A holds the list l, an element sz cells -/
def RowsAt {α : Type} (sz : Nat) (enc : α → List Value) (w : World) (A : Option Addr) (l : List α) : Prop := ∀ k (hk : k < l.length), ∃ b o, A = some ⟨b, o, none⟩ ∧ cellsAt w b (o + k * sz) (enc (l[k]'hk))
theorem RowsAt.below {α : Type} {sz : Nat} {enc : α → List Value} {w w' : World} {A : Option Addr} {l : List α} (h : RowsAt sz enc w A l) (hb : Below w.heap.size w w') : RowsAt sz enc w' A l := fun k hk => by
  obtain ⟨b, o, h1, h2⟩ := h k hk
  exact ⟨b, o, h1, cellsAt_below hb h2⟩
theorem cellsAt_sh {w0 w : World} {L : List Blk} (H : SH w0 [] w L) {b : Nat} : ∀ {vs : List Value} {o : Nat}, cellsAt w0 b o vs → cellsAt w b o vs
  | [], _, _ => trivial
  | _ :: _, _, h => ⟨H.ld0 h.1, cellsAt_sh H h.2⟩
theorem RowsAt.sh {α : Type} {sz : Nat} {enc : α → List Value} {w0 w : World} {L : List Blk} {A : Option Addr} {l : List α} (h : RowsAt sz enc w0 A l) (H : SH w0 [] w L) : RowsAt sz enc w A l := fun k hk => by
  obtain ⟨b, o, h1, h2⟩ := h k hk
  exact ⟨b, o, h1, cellsAt_sh H h2⟩
theorem RowsAt.nil {α : Type} {sz : Nat} {enc : α → List Value} {w : World} {A : Option Addr} : RowsAt sz enc w A [] := fun k hk => absurd hk (by simp)
theorem SH.ldS {w0 w : World} {S : List Nat} {L : List Blk} (h : SH w0 S w L) {a : Addr} {v : Value} (hc : w0.cell? a = some v) (hS : a.block ∉ S) : w.cell? a = some v :=
  (World.cell?_of_block (w := w0) (h.low a.block (cell_lt hc) hS)).trans hc
/-- the address of a slice lies in none of these blocks -/
def Off (A : Option Addr) (S : List Nat) : Prop := ∀ b o, A = some ⟨b, o, none⟩ → b ∉ S
theorem Off.nil {A : Option Addr} : Off A [] := fun _ _ _ => by simp
theorem OnesAt.shS {α : Type} {enc : α → Value} {w0 w : World} {S : List Nat} {L : List Blk} {A : Option Addr} {l : List α} (h : OnesAt enc w0 A l) (hS : Off A S) (H : SH w0 S w L) : OnesAt enc w A l := fun k hk => by
  obtain ⟨b, o, h1, h2⟩ := h k hk
  exact ⟨b, o, h1, H.ldS h2 (hS b o h1)⟩
theorem cellsAt_shS {w0 w : World} {S : List Nat} {L : List Blk} (H : SH w0 S w L) {b : Nat} (hS : b ∉ S) : ∀ {vs : List Value} {o : Nat}, cellsAt w0 b o vs → cellsAt w b o vs
  | [], _, _ => trivial
  | _ :: _, _, h => ⟨H.ldS h.1 hS, cellsAt_shS H hS h.2⟩
theorem RowsAt.shS {α : Type} {sz : Nat} {enc : α → List Value} {w0 w : World} {S : List Nat} {L : List Blk} {A : Option Addr} {l : List α} (h : RowsAt sz enc w0 A l) (hS : Off A S) (H : SH w0 S w L) : RowsAt sz enc w A l := fun k hk => by
  obtain ⟨b, o, h1, h2⟩ := h k hk
  exact ⟨b, o, h1, cellsAt_shS H (hS b o h1) h2⟩
/-- the blocks of a list, as a callee that may write them gets them -/
theorem SH.restart {w0 w : World} {S : List Nat} {L Lv : List Blk} (H : SH w0 S w L) (hs : Lv.Sublist L) : SH w (Lv.map (·.g)) w Lv :=
  ⟨rfl, rfl, rfl, Nat.le_refl _, fun _ _ _ => rfl, fun b hb => H.own b (hs.subset hb), fun b hb => .inr (List.mem_map_of_mem hb), (hs.map _).nodup H.nodup⟩
/-- behind a call that may have written the blocks Lv -/
theorem SH.call {w0 w w' : World} {S : List Nat} {L1 Lv Lv' : List Blk} (H : SH w0 S w (L1 ++ Lv)) (Hc : SH w (Lv.map (·.g)) w' Lv') : SH w0 S w' (L1 ++ Lv') where
  os := Hc.os.trans H.os
  tape := Hc.tape.trans H.tape
  output := Hc.output.trans H.output
  size := Nat.le_trans H.size Hc.size
  low k hk hS := by
    rw [Hc.low k (Nat.lt_of_lt_of_le hk H.size) (fun hm => ?_)]
    · exact H.low k hk hS
    · obtain ⟨b, hb, rfl⟩ := List.mem_map.1 hm
      rcases H.may b (List.mem_append_right _ hb) with h | h
      · omega
      · exact hS h
  own b hb := by
    rcases List.mem_append.1 hb with h | h
    · rw [Hc.low b.g (H.lt (List.mem_append_left _ h)) (fun hm => ?_)]
      · exact H.own b (List.mem_append_left _ h)
      · have hn := H.nodup
        rw [List.map_append, List.nodup_append] at hn
        exact hn.2.2 b.g (List.mem_map_of_mem h) b.g hm rfl
    · exact Hc.own b h
  may b hb := by
    rcases List.mem_append.1 hb with h | h
    · exact H.may b (List.mem_append_left _ h)
    · rcases Hc.may b h with h2 | h2
      · exact .inl (Nat.le_trans H.size h2)
      · obtain ⟨c, hc, he⟩ := List.mem_map.1 h2
        rw [← he]; exact H.may c (List.mem_append_right _ hc)
  nodup := by
    have hn := H.nodup
    rw [List.map_append, List.nodup_append] at hn ⊢
    refine ⟨hn.1, Hc.nodup, fun a ha b hb he => ?_⟩
    subst he
    obtain ⟨c, hc, rfl⟩ := List.mem_map.1 ha
    obtain ⟨d, hd, hde⟩ := List.mem_map.1 hb
    rcases Hc.may d hd with h2 | h2
    · have := H.lt (List.mem_append_left _ hc); omega
    · rw [hde] at h2
      exact hn.2.2 c.g (List.mem_map_of_mem hc) c.g h2 rfl
theorem SH.fresh {w0 w : World} {L : List Blk} (H : SH w0 [] w L) : ∀ g ∈ L.map (·.g), w0.heap.size ≤ g := fun g hg => by
  obtain ⟨b, hb, rfl⟩ := List.mem_map.1 hg
  rcases H.may b hb with h | h
  · exact h
  · simp at h
theorem OnesAt.off {α : Type} {enc : α → Value} {w0 : World} {A : Option Addr} {l : List α} {gs : List Nat} (h : OnesAt enc w0 A l) (hg : ∀ g ∈ gs, w0.heap.size ≤ g) : l ≠ [] → Off A gs := fun hl b o he hm => by
  subst he
  obtain ⟨b', o', h1, h2⟩ := h 0 (List.length_pos_iff.2 hl)
  cases h1
  have h3 := cell_lt h2
  have h3 : b < w0.heap.size := h3
  have := hg b hm
  omega
theorem RowsAt.off {α : Type} {sz : Nat} {enc : α → List Value} {w0 : World} {A : Option Addr} {l : List α} {gs : List Nat} (h : RowsAt sz enc w0 A l) (hne : ∀ x, enc x ≠ []) (hg : ∀ g ∈ gs, w0.heap.size ≤ g) : l ≠ [] → Off A gs := fun hl b o he hm => by
  subst he
  obtain ⟨b', o', h1, h2⟩ := h 0 (List.length_pos_iff.2 hl)
  cases h1
  have hgb := hg b hm
  generalize hx : enc (l[0]'(List.length_pos_iff.2 hl)) = vs at h2
  match vs, h2 with
  | [], _ => exact hne _ hx
  | v :: vs, h2 =>
    have h3 : b < w0.heap.size := cell_lt h2.1
    omega
/-- some of the blocks, in another order -/
theorem SH.reidx {w0 w : World} {S : List Nat} {L L' : List Blk} (H : SH w0 S w L) (idx : List Nat) (hn : idx.Nodup) (hi : idx.map (fun i => L[i]?) = L'.map some) : SH w0 S w L' := by
  have hlen : idx.length = L'.length := by have := congrArg List.length hi; simpa using this
  have hat : ∀ p (h : p < L'.length), L[idx[p]'(by omega)]? = some L'[p] := by
    intro p h
    have := congrArg (fun l => l[p]?) hi
    simp only [List.getElem?_map] at this
    rw [List.getElem?_eq_getElem (by omega), List.getElem?_eq_getElem h] at this
    simpa using this
  have hmem : ∀ b ∈ L', b ∈ L := by
    intro b hb
    obtain ⟨p, hp, rfl⟩ := List.mem_iff_getElem.1 hb
    exact List.mem_of_getElem? (hat p hp)
  refine ⟨H.os, H.tape, H.output, H.size, H.low, fun b hb => H.own b (hmem b hb), fun b hb => H.may b (hmem b hb), ?_⟩
  rw [List.nodup_iff_pairwise_ne, List.pairwise_iff_getElem]
  intro p q hp hq hpq
  simp only [List.length_map] at hp hq
  have h1 := hat p hp
  have h2 := hat q hq
  have hne : idx[p]'(by omega) ≠ idx[q]'(by omega) := by
    rw [List.nodup_iff_pairwise_ne, List.pairwise_iff_getElem] at hn
    exact hn p q (by omega) (by omega) hpq
  generalize idx[p]'(by omega) = i at *
  generalize idx[q]'(by omega) = j at *
  obtain ⟨hi1, hi2⟩ := List.getElem?_eq_some_iff.1 h1
  obtain ⟨hj1, hj2⟩ := List.getElem?_eq_some_iff.1 h2
  have hd := H.nodup
  rw [List.nodup_iff_pairwise_ne, List.pairwise_iff_getElem] at hd
  simp only [List.getElem_map]
  rcases Nat.lt_or_gt_of_ne hne with h | h
  · have := hd i j (by simpa) (by simpa) h
    simpa [hi2, hj2] using this
  · have := hd j i (by simpa) (by simpa) h
    simp [hi2, hj2] at this
    exact fun he => this he.symm
/-- what lies off the blocks at the start lies off those that stand later -/
theorem Off.later {α : Type} {enc : α → Value} {w0 w : World} {gs : List Nat} {L : List Blk} {A : Option Addr} {l : List α} (h : OnesAt enc w0 A l) (hg : l ≠ [] → Off A gs) (H : SH w0 gs w L) : l ≠ [] → Off A (L.map (·.g)) := fun hl b o he hm => by
  have hoff := hg hl b o he
  subst he
  obtain ⟨b', o', h1, h2⟩ := h 0 (List.length_pos_iff.2 hl)
  cases h1
  have h3 : b < w0.heap.size := cell_lt h2
  obtain ⟨c, hc, rfl⟩ := List.mem_map.1 hm
  rcases H.may c hc with h4 | h4
  · omega
  · exact hoff h4
theorem ret_eq {v v' : Value} (h : v = v') : Ending.returned v = .returned v' := by rw [h]
theorem ret_int {a b : Int} (h : a = b) : Ending.returned (I a) = .returned (I b) := by rw [h]
end Go.W
