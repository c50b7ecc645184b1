/-
  Regions whose order is open and that make memory in more than one place: quiet operations are taken first, over the others it is branched.
-/
import Derived.Test.YtchjbjplddhknaaEng
import Derived.OrdersHeld
import Derived.Laws.CopyRow
import Derived.Deep.Slices
import Derived.ChangeOld
import Derived.ProofKit
import Derived.OpenShut
import Derived.WalkKit
import Derived.Still
import Derived.StillTail
import Derived.Deep.Quiet
import Derived.Deep.LoopGhost
import Derived.KernelRfl
import Derived.Maps.AppendAt
set_option linter.all false
namespace Go.W
open Go.RowKit
structure OPH (P : Program) (N : Nat) (ops : Array Oper) (K : Env → World → Prop) (w0 : World) (S : List Nat) (L : List Blk) (fuel : Nat) (listed : Array Bool) (e : Env) (w : World) : Prop where
  run : ∀ a : Act, envOf a = e → a.tmps.size = N → a.defers = [] → wpAnyH P .any ops (post N K NoX NoR) (fun w' => SH w0 S w' L) fuel listed a w
section
variable {P : Program} {N : Nat} {ops : Array Oper} {K : Env → World → Prop} {Kn : Env → World → Prop} {Kx : Nat → Env → World → Prop} {Kr : Env → World → Prop} {e : Env} {w w0 : World} {S : List Nat} {L : List Blk} {fuel : Nat} {listed : Array Bool}
theorem WP.rheld {id : Nat} (hm : P.follows .mixedOrders = true) (H : SH w0 S w L) (h : ∀ w', Below w.heap.size w w' → SH w0 S w' L → OPH P N ops Kn w0 S L ops.size (Array.replicate ops.size false) e w') : WP P N (.region id ops true) Kn Kx Kr e w :=
  ⟨fun a h1 h2 h3 => Code.wp_mono post_up (wp_region_held (S := fun w' => SH w0 S w' L) hm ((h { w with drawn := w.drawn + 1 } ⟨rfl, rfl, rfl, Nat.le_refl _, fun _ _ => rfl⟩ H.drew).run a h1 h2 h3))⟩
theorem WP.rheldC {id : Nat} (M : List Nat) (I : Env → World → Prop) (hm : P.follows .mixedOrders = true) (H : SH w0 S w L)
    (h : ∀ w', Below w.heap.size w w' → SH w0 S w' L → OPH P N ops (fun e' w' => Agree M e' e ∧ I e' w') w0 S L ops.size (Array.replicate ops.size false) e w') (hk : ∀ u w', I u w' → Kn (W.mix M u e) w') : WP P N (.region id ops true) Kn Kx Kr e w :=
  WP.mono (WP.rheld (Kn := fun e' w' => Agree M e' e ∧ I e' w') (Kx := Kx) (Kr := Kr) hm H h) (fun e' w' hh => by rw [hh.1.eq]; exact hk e' w' hh.2) (fun _ _ _ h => h) (fun _ _ h => h)
theorem OPH.take (i : Nat) {oi : Oper} {d : Nat} {v : Value} {f : Nat} (hi : ops[i]? = some oi) (hg : oi.guard = none) (hd : oi.dst = some d) (hN : Nat.blt d N = true) (hs : Region.noSelect ops = true) (hf : Region.free .any ops listed i = true)
    (hr : (Region.ready .any ops listed).contains i = true) (hfu : fuel = f + 1) (H : SH w0 S w L) (hE : ∀ w', SH w0 S w' L → Ev P e w' oi.type oi.op v)
    (h : OPH P N ops K w0 S L f (listed.setIfInBounds i true) (upd e d v) w) : OPH P N ops K w0 S L fuel listed e w :=
  ⟨fun a h1 h2 h3 => by
    subst hfu
    have hn := h.run (a.put (some d) v) (by rw [envOf_put v h2 hN, h1]) (by rw [size_put]; exact h2) (by rw [defers_put]; exact h3)
    refine wpAnyH_take hi hs hf hr (fun c a w hh => by simp only [post] at hh) (v := v) (.inl ⟨wanted_none hg _, fun w' hw' => ?_⟩) H (by rw [hd]; exact hn)
    have := (hE w' hw').run w' (Below.refl _ _) oi rfl rfl
    rw [eval_eq, h1]; exact this⟩
theorem OPH.all (rs : List Nat) {f : Nat} (hr : Region.ready .any ops listed = rs) (hne : rs ≠ []) (hfu : fuel = f + 1)
    (h : ∀ i ∈ rs, ∃ o, ops[i]? = some o ∧ OPS P N .plain ops (fun e' w' => SH w0 S w' L ∧ OPH P N ops K w0 S L f (listed.setIfInBounds i true) e' w') [o] e w) : OPH P N ops K w0 S L fuel listed e w :=
  ⟨fun a h1 h2 h3 => by
    subst hfu
    refine wpAnyH_all hr hne fun i hi => ?_
    obtain ⟨o, ho, hO⟩ := h i hi
    have hl := hO.run a h1 h2 h3
    simp only at hl
    unfold wpList at hl
    unfold wpOp
    simp only [ho]
    split
    · rename_i hw
      rw [if_pos hw] at hl
      rcases hl with hl | ⟨_, _, _, hl⟩
      · refine .inl ?_
        unfold Oper.wp at hl ⊢
        generalize (execOp a.eval o).run P w = r at hl ⊢
        have key : ∀ a' w', wpList P ops (post N (fun e' w' => SH w0 S w' L ∧ OPH P N ops K w0 S L f (listed.setIfInBounds i true) e' w') NoX NoR) [] a' w' → SH w0 S w' L ∧ wpAnyH P .any ops (post N K NoX NoR) (fun w' => SH w0 S w' L) f (listed.setIfInBounds i true) a' w' := by
          intro a' w' hh
          have hh : a'.tmps.size = N ∧ a'.defers = [] ∧ _ := hh
          exact ⟨hh.2.2.1, hh.2.2.2.run a' rfl hh.1 hh.2.1⟩
        cases r with
        | ok n w' =>
          cases n <;> simp only [Oper.upon] at hl ⊢
          case value u => exact key _ _ hl
          case skip => exact key _ _ hl
          case defer d => exact key _ _ hl
          case enter g args =>
            refine Calls.mono hl ?_
            intro e' w'' he
            cases e' with
            | returned u => exact key _ _ he
            | panicked c => simp only [post] at he
            | outgrown => obtain ⟨_, _, he⟩ := he; simp only [post] at he
          case row row args => exact Rows.mono hl fun u w'' he => key _ _ he
        | halt x w' =>
          cases x <;> simp only [Oper.upon] at hl ⊢
          case panic u => simp only [post] at hl
      · simp only [post] at hl
    · rename_i hw
      rw [if_neg hw] at hl
      have hl : (a.put o.dst undef).tmps.size = N ∧ (a.put o.dst undef).defers = [] ∧ _ := hl
      exact ⟨hl.2.2.1, hl.2.2.2.run _ rfl hl.1 hl.2.1⟩⟩
theorem OPH.done (hr : Region.ready .any ops listed = []) (h : K e w) : OPH P N ops K w0 S L fuel listed e w := ⟨fun _ h1 h2 h3 => wpAnyH_done hr ⟨h2, h3, h1 ▸ h⟩ fuel⟩
end
end Go.W

/-
  Words for what arguments read as: lists of one-cell elements, lists of elements of several cells.
-/
set_option linter.all false
namespace Go.W
open Go.RowKit
abbrev I (n : Int) : Value := .int .i64 n
abbrev Bo (b : Bool) : Value := .bool b
/-- the slice of address A holds the list l, an element a cell -/
def OnesAt {α : Type} (enc : α → Value) (w : World) (A : Option Addr) (l : List α) : Prop := ∀ k (hk : k < l.length), ∃ b o, A = some ⟨b, o, none⟩ ∧ w.cell? ⟨b, o + k, none⟩ = some (enc (l[k]'hk))
theorem OnesAt.below {α : Type} {enc : α → Value} {w w' : World} {A : Option Addr} {l : List α} (h : OnesAt enc w A l) (hb : Below w.heap.size w w') : OnesAt enc w' A l := fun k hk => by
  obtain ⟨b, o, h1, h2⟩ := h k hk
  exact ⟨b, o, h1, cell_below hb h2⟩
theorem OnesAt.sh {α : Type} {enc : α → Value} {w0 w : World} {L : List Blk} {A : Option Addr} {l : List α} (h : OnesAt enc w0 A l) (H : SH w0 [] w L) : OnesAt enc w A l := fun k hk => by
  obtain ⟨b, o, h1, h2⟩ := h k hk
  exact ⟨b, o, h1, H.ld0 h2⟩
theorem OnesAt.nil {α : Type} {enc : α → Value} {w : World} {A : Option Addr} : OnesAt enc w A [] := fun k hk => absurd hk (by simp)
/-- an own block that begins with the list -/
theorem OnesAt.own {α : Type} {enc : α → Value} {w0 w : World} {S : List Nat} {L : List Blk} (H : SH w0 S w L) (i : Nat) {b : Blk} (hi : L[i]? = some b) {l : List α} {post : List Value} (hc : b.cs = l.map enc ++ post) :
    OnesAt enc w (some ⟨b.g, 0, none⟩) l := fun k hk => ⟨b.g, 0, rfl, by
  have h1 : b.cs[k]? = some (enc (l[k]'hk)) := by
    rw [hc, List.getElem?_append_left (by simpa using hk), List.getElem?_map, List.getElem?_eq_getElem hk]; rfl
  rw [Nat.zero_add]
  exact H.ldL i hi k h1⟩
abbrev IntsAt := OnesAt I
abbrev BoolsAt := OnesAt Bo
/-- the slice of address A holds the list l, an element sz cells -/
def RowsAt {α : Type} (sz : Nat) (enc : α → List Value) (w : World) (A : Option Addr) (l : List α) : Prop := ∀ k (hk : k < l.length), ∃ b o, A = some ⟨b, o, none⟩ ∧ cellsAt w b (o + k * sz) (enc (l[k]'hk))
theorem RowsAt.below {α : Type} {sz : Nat} {enc : α → List Value} {w w' : World} {A : Option Addr} {l : List α} (h : RowsAt sz enc w A l) (hb : Below w.heap.size w w') : RowsAt sz enc w' A l := fun k hk => by
  obtain ⟨b, o, h1, h2⟩ := h k hk
  exact ⟨b, o, h1, cellsAt_below hb h2⟩
theorem cellsAt_sh {w0 w : World} {L : List Blk} (H : SH w0 [] w L) {b : Nat} : ∀ {vs : List Value} {o : Nat}, cellsAt w0 b o vs → cellsAt w b o vs
  | [], _, _ => trivial
  | _ :: _, _, h => ⟨H.ld0 h.1, cellsAt_sh H h.2⟩
theorem RowsAt.sh {α : Type} {sz : Nat} {enc : α → List Value} {w0 w : World} {L : List Blk} {A : Option Addr} {l : List α} (h : RowsAt sz enc w0 A l) (H : SH w0 [] w L) : RowsAt sz enc w A l := fun k hk => by
  obtain ⟨b, o, h1, h2⟩ := h k hk
  exact ⟨b, o, h1, cellsAt_sh H h2⟩
theorem RowsAt.nil {α : Type} {sz : Nat} {enc : α → List Value} {w : World} {A : Option Addr} : RowsAt sz enc w A [] := fun k hk => absurd hk (by simp)
theorem SH.ldS {w0 w : World} {S : List Nat} {L : List Blk} (h : SH w0 S w L) {a : Addr} {v : Value} (hc : w0.cell? a = some v) (hS : a.block ∉ S) : w.cell? a = some v :=
  (World.cell?_of_block (w := w0) (h.low a.block (cell_lt hc) hS)).trans hc
/-- the address of a slice lies in none of these blocks -/
def Off (A : Option Addr) (S : List Nat) : Prop := ∀ b o, A = some ⟨b, o, none⟩ → b ∉ S
theorem Off.nil {A : Option Addr} : Off A [] := fun _ _ _ => by simp
theorem OnesAt.shS {α : Type} {enc : α → Value} {w0 w : World} {S : List Nat} {L : List Blk} {A : Option Addr} {l : List α} (h : OnesAt enc w0 A l) (hS : Off A S) (H : SH w0 S w L) : OnesAt enc w A l := fun k hk => by
  obtain ⟨b, o, h1, h2⟩ := h k hk
  exact ⟨b, o, h1, H.ldS h2 (hS b o h1)⟩
theorem cellsAt_shS {w0 w : World} {S : List Nat} {L : List Blk} (H : SH w0 S w L) {b : Nat} (hS : b ∉ S) : ∀ {vs : List Value} {o : Nat}, cellsAt w0 b o vs → cellsAt w b o vs
  | [], _, _ => trivial
  | _ :: _, _, h => ⟨H.ldS h.1 hS, cellsAt_shS H hS h.2⟩
theorem RowsAt.shS {α : Type} {sz : Nat} {enc : α → List Value} {w0 w : World} {S : List Nat} {L : List Blk} {A : Option Addr} {l : List α} (h : RowsAt sz enc w0 A l) (hS : Off A S) (H : SH w0 S w L) : RowsAt sz enc w A l := fun k hk => by
  obtain ⟨b, o, h1, h2⟩ := h k hk
  exact ⟨b, o, h1, cellsAt_shS H (hS b o h1) h2⟩
/-- the blocks of a list, as a callee that may write them gets them -/
theorem SH.restart {w0 w : World} {S : List Nat} {L Lv : List Blk} (H : SH w0 S w L) (hs : Lv.Sublist L) : SH w (Lv.map (·.g)) w Lv :=
  ⟨rfl, rfl, rfl, Nat.le_refl _, fun _ _ _ => rfl, fun b hb => H.own b (hs.subset hb), fun b hb => .inr (List.mem_map_of_mem hb), (hs.map _).nodup H.nodup⟩
/-- behind a call that may have written the blocks Lv -/
theorem SH.call {w0 w w' : World} {S : List Nat} {L1 Lv Lv' : List Blk} (H : SH w0 S w (L1 ++ Lv)) (Hc : SH w (Lv.map (·.g)) w' Lv') : SH w0 S w' (L1 ++ Lv') where
  os := Hc.os.trans H.os
  tape := Hc.tape.trans H.tape
  output := Hc.output.trans H.output
  size := Nat.le_trans H.size Hc.size
  low k hk hS := by
    rw [Hc.low k (Nat.lt_of_lt_of_le hk H.size) (fun hm => ?_)]
    · exact H.low k hk hS
    · obtain ⟨b, hb, rfl⟩ := List.mem_map.1 hm
      rcases H.may b (List.mem_append_right _ hb) with h | h
      · omega
      · exact hS h
  own b hb := by
    rcases List.mem_append.1 hb with h | h
    · rw [Hc.low b.g (H.lt (List.mem_append_left _ h)) (fun hm => ?_)]
      · exact H.own b (List.mem_append_left _ h)
      · have hn := H.nodup
        rw [List.map_append, List.nodup_append] at hn
        exact hn.2.2 b.g (List.mem_map_of_mem h) b.g hm rfl
    · exact Hc.own b h
  may b hb := by
    rcases List.mem_append.1 hb with h | h
    · exact H.may b (List.mem_append_left _ h)
    · rcases Hc.may b h with h2 | h2
      · exact .inl (Nat.le_trans H.size h2)
      · obtain ⟨c, hc, he⟩ := List.mem_map.1 h2
        rw [← he]; exact H.may c (List.mem_append_right _ hc)
  nodup := by
    have hn := H.nodup
    rw [List.map_append, List.nodup_append] at hn ⊢
    refine ⟨hn.1, Hc.nodup, fun a ha b hb he => ?_⟩
    subst he
    obtain ⟨c, hc, rfl⟩ := List.mem_map.1 ha
    obtain ⟨d, hd, hde⟩ := List.mem_map.1 hb
    rcases Hc.may d hd with h2 | h2
    · have := H.lt (List.mem_append_left _ hc); omega
    · rw [hde] at h2
      exact hn.2.2 c.g (List.mem_map_of_mem hc) c.g h2 rfl
theorem SH.fresh {w0 w : World} {L : List Blk} (H : SH w0 [] w L) : ∀ g ∈ L.map (·.g), w0.heap.size ≤ g := fun g hg => by
  obtain ⟨b, hb, rfl⟩ := List.mem_map.1 hg
  rcases H.may b hb with h | h
  · exact h
  · simp at h
theorem OnesAt.off {α : Type} {enc : α → Value} {w0 : World} {A : Option Addr} {l : List α} {gs : List Nat} (h : OnesAt enc w0 A l) (hg : ∀ g ∈ gs, w0.heap.size ≤ g) : l ≠ [] → Off A gs := fun hl b o he hm => by
  subst he
  obtain ⟨b', o', h1, h2⟩ := h 0 (List.length_pos_iff.2 hl)
  cases h1
  have h3 := cell_lt h2
  have h3 : b < w0.heap.size := h3
  have := hg b hm
  omega
theorem RowsAt.off {α : Type} {sz : Nat} {enc : α → List Value} {w0 : World} {A : Option Addr} {l : List α} {gs : List Nat} (h : RowsAt sz enc w0 A l) (hne : ∀ x, enc x ≠ []) (hg : ∀ g ∈ gs, w0.heap.size ≤ g) : l ≠ [] → Off A gs := fun hl b o he hm => by
  subst he
  obtain ⟨b', o', h1, h2⟩ := h 0 (List.length_pos_iff.2 hl)
  cases h1
  have hgb := hg b hm
  generalize hx : enc (l[0]'(List.length_pos_iff.2 hl)) = vs at h2
  match vs, h2 with
  | [], _ => exact hne _ hx
  | v :: vs, h2 =>
    have h3 : b < w0.heap.size := cell_lt h2.1
    omega
/-- some of the blocks, in another order -/
theorem SH.reidx {w0 w : World} {S : List Nat} {L L' : List Blk} (H : SH w0 S w L) (idx : List Nat) (hn : idx.Nodup) (hi : idx.map (fun i => L[i]?) = L'.map some) : SH w0 S w L' := by
  have hlen : idx.length = L'.length := by have := congrArg List.length hi; simpa using this
  have hat : ∀ p (h : p < L'.length), L[idx[p]'(by omega)]? = some L'[p] := by
    intro p h
    have := congrArg (fun l => l[p]?) hi
    simp only [List.getElem?_map] at this
    rw [List.getElem?_eq_getElem (by omega), List.getElem?_eq_getElem h] at this
    simpa using this
  have hmem : ∀ b ∈ L', b ∈ L := by
    intro b hb
    obtain ⟨p, hp, rfl⟩ := List.mem_iff_getElem.1 hb
    exact List.mem_of_getElem? (hat p hp)
  refine ⟨H.os, H.tape, H.output, H.size, H.low, fun b hb => H.own b (hmem b hb), fun b hb => H.may b (hmem b hb), ?_⟩
  rw [List.nodup_iff_pairwise_ne, List.pairwise_iff_getElem]
  intro p q hp hq hpq
  simp only [List.length_map] at hp hq
  have h1 := hat p hp
  have h2 := hat q hq
  have hne : idx[p]'(by omega) ≠ idx[q]'(by omega) := by
    rw [List.nodup_iff_pairwise_ne, List.pairwise_iff_getElem] at hn
    exact hn p q (by omega) (by omega) hpq
  generalize idx[p]'(by omega) = i at *
  generalize idx[q]'(by omega) = j at *
  obtain ⟨hi1, hi2⟩ := List.getElem?_eq_some_iff.1 h1
  obtain ⟨hj1, hj2⟩ := List.getElem?_eq_some_iff.1 h2
  have hd := H.nodup
  rw [List.nodup_iff_pairwise_ne, List.pairwise_iff_getElem] at hd
  simp only [List.getElem_map]
  rcases Nat.lt_or_gt_of_ne hne with h | h
  · have := hd i j (by simpa) (by simpa) h
    simpa [hi2, hj2] using this
  · have := hd j i (by simpa) (by simpa) h
    simp [hi2, hj2] at this
    exact fun he => this he.symm
/-- what lies off the blocks at the start lies off those that stand later -/
theorem Off.later {α : Type} {enc : α → Value} {w0 w : World} {gs : List Nat} {L : List Blk} {A : Option Addr} {l : List α} (h : OnesAt enc w0 A l) (hg : l ≠ [] → Off A gs) (H : SH w0 gs w L) : l ≠ [] → Off A (L.map (·.g)) := fun hl b o he hm => by
  have hoff := hg hl b o he
  subst he
  obtain ⟨b', o', h1, h2⟩ := h 0 (List.length_pos_iff.2 hl)
  cases h1
  have h3 : b < w0.heap.size := cell_lt h2
  obtain ⟨c, hc, rfl⟩ := List.mem_map.1 hm
  rcases H.may c hc with h4 | h4
  · omega
  · exact hoff h4
theorem ret_eq {v v' : Value} (h : v = v') : Ending.returned v = .returned v' := by rw [h]
theorem ret_int {a b : Int} (h : a = b) : Ending.returned (I a) = .returned (I b) := by rw [h]
end Go.W

/-
  Own blocks that hold rows of several cells: reading and writing an element.
-/
set_option linter.all false
namespace Go.W
open Go.RowKit
section
variable {α : Type} {enc : α → List Value} {sz : Nat}
theorem rows_length (hsz : ∀ x, (enc x).length = sz) (l : List α) : (l.flatMap enc).length = l.length * sz := by
  induction l with
  | nil => simp
  | cons x l ih => simp only [List.flatMap_cons, List.length_append, hsz, ih, List.length_cons, Nat.succ_mul]; omega
theorem rows_get (hsz : ∀ x, (enc x).length = sz) : ∀ (l : List α) (k j : Nat) (hk : k < l.length), j < sz → (l.flatMap enc)[k * sz + j]? = (enc (l[k]'hk))[j]?
  | [], _, _, hk, _ => by simp at hk
  | x :: l, 0, j, _, hj => by
    simp only [List.flatMap_cons, Nat.zero_mul, Nat.zero_add, List.getElem_cons_zero]
    rw [List.getElem?_append_left (by rw [hsz]; exact hj)]
  | x :: l, k + 1, j, hk, hj => by
    simp only [List.flatMap_cons, List.getElem_cons_succ]
    rw [List.getElem?_append_right (by rw [hsz, Nat.succ_mul]; omega), hsz, show (k + 1) * sz + j - sz = k * sz + j by rw [Nat.succ_mul]; omega]
    exact rows_get hsz l k j (by simpa using hk) hj
theorem putL_append_right (pre : List Value) : ∀ (vs cs : List Value) (k : Nat), putL (pre ++ cs) (pre.length + k) vs = pre ++ putL cs k vs
  | [], _, _ => rfl
  | v :: vs, cs, k => by
    rw [putL, putL, List.set_append_right _ _ (by omega), show pre.length + k - pre.length = k by omega, show pre.length + k + 1 = pre.length + (k + 1) by omega]
    exact putL_append_right pre vs _ _
theorem putL_whole : ∀ (vs old : List Value) (post : List Value), old.length = vs.length → putL (old ++ post) 0 vs = vs ++ post
  | [], [], _, _ => rfl
  | v :: vs, u :: old, post, h => by
    rw [putL]
    have := putL_append_right [v] vs (old ++ post) 0
    simp only [List.cons_append, List.set_cons_zero, List.nil_append, List.length_cons, List.length_nil, Nat.zero_add, Nat.add_zero] at this ⊢
    rw [this, putL_whole vs old post (by simpa using h)]
  | [], _ :: _, _, h => by simp at h
  | _ :: _, [], _, h => by simp at h
theorem putL_rows (hsz : ∀ x, (enc x).length = sz) : ∀ (l : List α) (k : Nat) (x : α), k < l.length → putL (l.flatMap enc) (k * sz) (enc x) = (l.set k x).flatMap enc
  | [], _, _, h => by simp at h
  | y :: l, 0, x, _ => by
    simp only [List.flatMap_cons, Nat.zero_mul, List.set_cons_zero]
    exact putL_whole _ _ _ (by rw [hsz, hsz])
  | y :: l, k + 1, x, h => by
    simp only [List.flatMap_cons, List.set_cons_succ]
    rw [show (k + 1) * sz = (enc y).length + k * sz by rw [hsz, Nat.succ_mul]; omega, putL_append_right, putL_rows hsz l k x (by simpa using h)]
theorem rowsOwn {w0 w : World} {S : List Nat} {L : List Blk} (hsz : ∀ x, (enc x).length = sz) (H : SH w0 S w L) (i : Nat) {g : Nat} {T : TypeId} {l : List α} {post : List Value} (hi : L[i]? = some ⟨g, T, l.flatMap enc ++ post⟩) :
    RowsAt sz enc w (some ⟨g, 0, none⟩) l := fun k hk => ⟨g, 0, rfl, by
  refine cellsAt_own H i hi _ _ fun j hj => ?_
  rw [hsz] at hj
  have hlen := rows_length hsz l
  have hkk : k * sz + sz ≤ l.length * sz := by rw [← Nat.succ_mul]; exact Nat.mul_le_mul_right _ hk
  rw [Nat.zero_add, List.getElem?_append_left (by rw [hlen]; omega), rows_get hsz l k j hk hj, List.getElem?_eq_getElem]⟩
theorem rowsOwn' {w0 w : World} {S : List Nat} {L : List Blk} (hsz : ∀ x, (enc x).length = sz) (H : SH w0 S w L) (i : Nat) {g : Nat} {T : TypeId} {l : List α} (hi : L[i]? = some ⟨g, T, l.flatMap enc⟩) :
    RowsAt sz enc w (some ⟨g, 0, none⟩) l := rowsOwn (post := []) hsz H i (by simpa using hi)
theorem mkL_rows (n : Nat) (x : α) : mkL n (enc x) = (List.replicate n x).flatMap enc := by
  induction n with
  | zero => rfl
  | succ n ih => simp only [mkL, List.replicate_succ, List.flatten_cons, List.flatMap_cons] at ih ⊢; rw [ih]
theorem mkL_ones {enc1 : α → Value} (n : Nat) (x : α) : mkL n [enc1 x] = (List.replicate n x).map enc1 := by rw [mkL_one]; simp
end
theorem OwnS.rows {α : Type} {enc : α → List Value} {sz : Nat} (hsz : ∀ x, (enc x).length = sz) (hp : 0 < sz) {w0 w : World} {S : List Nat} {A : Option Addr} {cap n el : Nat} {l : List α} {R Lo : List Blk} (h : OwnS A cap n (l.flatMap enc) el sz Lo) (H : SH w0 S w (R ++ Lo)) :
    RowsAt sz enc w A l ∧ l.length = n := by
  have hl : l.length = n := by
    have := h.len
    rw [rows_length hsz] at this
    exact Nat.eq_of_mul_eq_mul_right hp this
  refine ⟨?_, hl⟩
  rcases h.form with ⟨rfl, h0, _, _⟩ | ⟨g, sp, rfl, rfl, _⟩
  · intro k hk; omega
  · exact rowsOwn (T := el) (post := sp) hsz H R.length (by simp)
theorem OwnS.ones {α : Type} {enc : α → Value} {w0 w : World} {S : List Nat} {A : Option Addr} {cap n el : Nat} {l : List α} {R Lo : List Blk} (h : OwnS A cap n (l.map enc) el 1 Lo) (H : SH w0 S w (R ++ Lo)) :
    OnesAt enc w A l ∧ l.length = n := by
  have hl : l.length = n := by simpa using h.len
  refine ⟨?_, hl⟩
  rcases h.form with ⟨rfl, h0, _, _⟩ | ⟨g, sp, rfl, rfl, _⟩
  · intro k hk; omega
  · exact OnesAt.own (b := ⟨g, el, l.map enc ++ sp⟩) H R.length (by simp) (post := sp) rfl
theorem onesOwn {α : Type} {enc : α → Value} {w0 w : World} {S : List Nat} {L : List Blk} (H : SH w0 S w L) (i : Nat) {g : Nat} {T : TypeId} {l : List α} (hi : L[i]? = some ⟨g, T, l.map enc⟩) : OnesAt enc w (some ⟨g, 0, none⟩) l :=
  OnesAt.own (b := ⟨g, T, l.map enc⟩) H i hi (post := []) (by simp)
/-- a store of one element -/
theorem putL_ones {α : Type} {enc : α → Value} (l : List α) (k : Nat) (x : α) : putL (l.map enc) k [enc x] = (l.set k x).map enc := by simp [putL, List.map_set]
end Go.W

/-
  More rules: copy.
-/
set_option linter.all false
namespace Go.W
open Go.RowKit
section
variable {P : Program} {N : Nat} {ops : Array Oper} {K : Env → World → Prop} {e : Env} {w w0 : World} {S : List Nat} {L : List Blk} {rest : List Oper} {o : Oper} {t : TypeId} {x y : Operand}
/-- copy of a whole list into a block of the call's own; elements of one cell -/
theorem OPS.copy {d el n sb so c c' : Nat} {b : Blk} {vs : List Value} (i k : Nat) (hg : o.guard = none) (hd : o.dst = some d) (hN : Nat.blt d N = true)
    (hop : o.op = .call { callee := .builtin .copy, args := #[x, y], argTypes := #[t, t] }) (hU : ∀ w, (underlying t).run P w = .ok (.slice el) w) (hs : ∀ w, (Go.sizeOf el).run P w = .ok 1 w)
    (hx : ev e x = .slice (some ⟨b.g, k, none⟩) n c) (hy : ev e y = .slice (some ⟨sb, so, none⟩) n c') (hn : vs.length = n) (hsrc : cellsAt w sb so vs) (h1 : (vs.all (·.oneCell')) = true)
    (H : SH w0 S w L) (hi : L[i]? = some b) (hk : k + n ≤ b.cs.length)
    (h : ∀ w', SH w0 S w' (L.set i ⟨b.g, b.T, putL b.cs k vs⟩) → OPS P N .plain ops K rest (upd e d (.int .i64 n)) w') : OPS P N .plain ops K (o :: rest) e w := by
  obtain ⟨w', hr, H'⟩ := store_run (P := P) vs w L b k 0 H hi (by omega) h1
  refine OPS.act (v := .int .i64 n) (w' := w') hg hd hN ?_ (h w' H')
  unfold execOp; rw [hop]
  have hl := loadCells_at (P := P) vs hsrc
  rw [hn] at hl
  simp [resolve, invoke, builtin, hx, hy, Builtin.copy_, hU, hs, Builtin.lenOf, Builtin.firstCells, hl, hr, goInt]
/-- as OPS.box, OPS.alloc, OPS.makeSlice, OPS.buildSlice, with what the new world keeps -/
theorem OPS.boxB {d : Nat} {cs : List Value} (hg : o.guard = none) (hd : o.dst = some d) (hN : Nat.blt d N = true) (hop : o.op = .box t x) (hx : (ev e x).cells = cs.toArray) (H : SH w0 S w L)
    (h : ∀ g w', Below w.heap.size w w' → SH w0 S w' (⟨g, t, cs⟩ :: L) → OPS P N .plain ops K rest (upd e d (.pointer (some ⟨g, 0, none⟩))) w') : OPS P N .plain ops K (o :: rest) e w :=
  OPS.act (v := .pointer (some ⟨w.heap.size, 0, none⟩)) (w' := w.alloc (.cells cs.toArray t)) hg hd hN (by unfold execOp; rw [hop]; simp [Instr.box, newVar, newRow, newObj, Sem.run, hx]) (h _ _ ((Below.refl _ _).alloc (Nat.le_refl _) _) (H.alloc t cs))
theorem OPS.allocB {d : Nat} {z : Value} {cs : List Value} (hg : o.guard = none) (hd : o.dst = some d) (hN : Nat.blt d N = true) (hop : o.op = .alloc t) (hz : ∀ w, (zeroValue t).run P w = .ok z w) (hx : z.cells = cs.toArray) (H : SH w0 S w L)
    (h : ∀ g w', Below w.heap.size w w' → SH w0 S w' (⟨g, t, cs⟩ :: L) → OPS P N .plain ops K rest (upd e d (.pointer (some ⟨g, 0, none⟩))) w') : OPS P N .plain ops K (o :: rest) e w :=
  OPS.act (v := .pointer (some ⟨w.heap.size, 0, none⟩)) (w' := w.alloc (.cells cs.toArray t)) hg hd hN (by unfold execOp; rw [hop]; simp [Instr.alloc, hz, newVar, newRow, newObj, Sem.run, hx]) (h _ _ ((Below.refl _ _).alloc (Nat.le_refl _) _) (H.alloc t cs))
theorem OPS.makeSliceB {d el sz bt m : Nat} {n : Int} {k k' : IntKind} {zs : List Value} (hg : o.guard = none) (hd : o.dst = some d) (hN : Nat.blt d N = true) (hop : o.op = .makeSlice t x y) (hf : SlFact P t el sz bt zs)
    (hx : ev e x = .int k n) (hy : ev e y = .int k' n) (hn : n = (m : Int)) (hb : bt * m ≤ 140737488355328) (hm : m ≤ 9223372036854775807) (H : SH w0 S w L)
    (h : ∀ g w', Below w.heap.size w w' → SH w0 S w' (⟨g, el, mkL m zs⟩ :: L) → OPS P N .plain ops K rest (upd e d (.slice (some ⟨g, 0, none⟩) m m)) w') : OPS P N .plain ops K (o :: rest) e w := by
  subst hn
  refine OPS.act (v := .slice (some ⟨w.heap.size, 0, none⟩) m m) (w' := w.alloc (.cells (mkL m zs).toArray el)) hg hd hN ?_ (h _ _ ((Below.refl _ _).alloc (Nat.le_refl _) _) (H.alloc _ _))
  unfold execOp; rw [hop]
  simp only [hx, hy, Sem.run_bind, run_makeSlice_own hf m k k' hb hm w, Result.andThen_ok, Sem.run_pure]
theorem OPS.buildSliceB {d el n : Nat} {cs : List Value} {parts : List (Nat × Operand)} (hg : o.guard = none) (hd : o.dst = some d) (hN : Nat.blt d N = true) (hop : o.op = .buildSlice t n parts.toArray)
    (hr : ∀ w, (Instr.buildSlice t n (parts.map fun p => (p.1, ev e p.2)).toArray).run P w = .ok (.slice (some ⟨w.heap.size, 0, none⟩) n n) (w.alloc (.cells cs.toArray el))) (H : SH w0 S w L)
    (h : ∀ g w', Below w.heap.size w w' → SH w0 S w' (⟨g, el, cs⟩ :: L) → OPS P N .plain ops K rest (upd e d (.slice (some ⟨g, 0, none⟩) n n)) w') : OPS P N .plain ops K (o :: rest) e w := by
  refine OPS.act (v := .slice (some ⟨w.heap.size, 0, none⟩) n n) (w' := w.alloc (.cells cs.toArray el)) hg hd hN ?_ (h _ _ ((Below.refl _ _).alloc (Nat.le_refl _) _) (H.alloc _ _))
  unfold execOp; rw [hop]
  simp only [List.map_toArray, Sem.run_bind, hr, Result.andThen_ok, Sem.run_pure]
/-- a guarded call in a quiet region, the contract first -/
theorem OPS.gcallq2 {d j dj : Nat} {want b : Bool} {f : FuncId} {args : List Value} {v : Value}
    (hC : b = want → ∀ w', Below w.heap.size w w' → Calls P f args.toArray w' fun e' w'' => e' = .returned v ∧ Below w'.heap.size w' w'')
    (hg : o.guard = some (j, want)) (hj : ops[j]?.bind (·.dst) = some dj) (hb : e dj = .bool b) (hd : o.dst = some d) (hN : Nat.blt d N = true) (hE : b = want → EvC P e o.op f args)
    (h : OPS P N .quiet ops K rest (upd e d (gv b want v)) w) : OPS P N .quiet ops K (o :: rest) e w :=
  ⟨fun a h1 h2 h3 => by
    have hn := h.run (a.put (some d) (gv b want v)) (by rw [envOf_put _ h2 hN, h1]) (by rw [size_put]; exact h2) (by rw [defers_put]; exact h3)
    have hy := yielded_of (a := a) hj (h1 ▸ hb)
    simp only at hn ⊢
    unfold wpQuiet
    by_cases hw : b = want
    · subst hw
      have hwt : Region.wanted o (yielded ops a.tmps) = true := by simp [Region.wanted, hg, hy]
      have hgv : gv b b v = v := by simp [gv]
      rw [hgv] at hn
      rw [if_pos hwt]
      refine ⟨v, fun w' hb => ?_, by rw [hd]; exact hn⟩
      unfold Oper.quietAt
      have hr := (hE rfl).run w' o rfl
      rw [← h1, ← eval_eq] at hr
      rw [hr]
      exact ⟨rfl, (hC rfl w' hb).mono fun e' w'' ⟨he, hb2⟩ => ⟨he, hb.trans (hb2.mono hb.size)⟩⟩
    · have hwt : Region.wanted o (yielded ops a.tmps) = false := by simp [Region.wanted, hg, hy, hw]
      have hgv : gv b want v = undef := by simp [gv, hw]
      rw [hgv] at hn
      rw [hwt, hd]; exact hn⟩
/-- a guarded call whose result is not known beforehand -/
theorem OPS.gcallX {α : Type} [Inhabited α] (val : α → Value) (R : α → World → Prop) {d j dj : Nat} {want b : Bool} {f : FuncId} {args : List Value}
    (hC : b = want → Calls P f args.toArray w fun e' w' => ∃ x, e' = .returned (val x) ∧ R x w' ∧ Below w.heap.size w w') (hg : o.guard = some (j, want)) (hj : ops[j]?.bind (·.dst) = some dj) (hb : e dj = .bool b) (hd : o.dst = some d) (hN : Nat.blt d N = true)
    (hE : b = want → EvC P e o.op f args)
    (h : ∀ x w', (b = want → R x w') → Below w.heap.size w w' → OPS P N .plain ops K rest (upd e d (gv b want (val x))) w') : OPS P N .plain ops K (o :: rest) e w :=
  ⟨fun a h1 h2 h3 => by
    have hy := yielded_of (a := a) hj (h1 ▸ hb)
    simp only
    unfold wpList
    by_cases hw : b = want
    · subst hw
      have hwt : Region.wanted o (yielded ops a.tmps) = true := by simp [Region.wanted, hg, hy]
      rw [if_pos hwt]
      refine .inl ?_
      unfold Oper.wp
      have hr := (hE rfl).run w o rfl
      rw [← h1, ← eval_eq] at hr
      rw [hr]
      refine (hC rfl).mono fun e' w' ⟨x, he, hR, hb2⟩ => ?_
      subst he
      have hn := (h x w' (fun _ => hR) hb2).run (a.put (some d) (gv b b (val x))) (by rw [envOf_put _ h2 hN, h1]) (by rw [size_put]; exact h2) (by rw [defers_put]; exact h3)
      have hgv : gv b b (val x) = val x := by simp [gv]
      rw [hgv] at hn
      rw [hd]
      exact hn
    · have hwt : Region.wanted o (yielded ops a.tmps) = false := by simp [Region.wanted, hg, hy, hw]
      have hn := (h default w (fun hx => absurd hx hw) (Below.refl _ _)).run (a.put (some d) (gv b want (val default))) (by rw [envOf_put _ h2 hN, h1]) (by rw [size_put]; exact h2) (by rw [defers_put]; exact h3)
      have hgv : gv b want (val default) = undef := by simp [gv, hw]
      rw [hgv] at hn
      rw [hwt, hd]; exact hn⟩
end
section
variable {P : Program} {e : Env} {w : World} {ty t : TypeId} {x y : Operand}
theorem Ev.pickT {c : Operand} {b : Bool} {v : Value} (hc : ev e c = .bool b) (hb : b = true) (hx : ev e x = v) : Ev P e w ty (.pick c x y) v := by
  have := Ev.pick (P := P) (w := w) (ty := ty) (x := x) (y := y) hc
  rw [if_pos hb, hx] at this; exact this
theorem Ev.pickF {c : Operand} {b : Bool} {v : Value} (hc : ev e c = .bool b) (hb : b = false) (hy : ev e y = v) : Ev P e w ty (.pick c x y) v := by
  have := Ev.pick (P := P) (w := w) (ty := ty) (x := x) (y := y) hc
  rw [if_neg (by simp [hb]), hy] at this; exact this
theorem equalB {a b : Bool} (hU : ∀ w, (underlying t).run P w = .ok .bool w) (w : World) : (Op.equal t (.bool a) (.bool b)).run P w = .ok (a == b) w := by
  unfold Op.equal
  rw [show Op.maxDepth = 9999 + 1 from rfl, Op.equalIn]
  simp [hU]
theorem Ev.neqB {t' : TypeId} {a b : Bool} (hU : ∀ w, (underlying t).run P w = .ok .bool w) (hx : ev e x = .bool a) (hy : ev e y = .bool b) : Ev P e w ty (.binOp .neq t x y t') (.bool (a != b)) :=
  ⟨fun w' _ o ho _ => by unfold execOp; rw [ho]; simp [hx, hy, eqGuard, binOp, equalB hU, bne]⟩
theorem Ev.eqlB {t' : TypeId} {a b : Bool} (hU : ∀ w, (underlying t).run P w = .ok .bool w) (hx : ev e x = .bool a) (hy : ev e y = .bool b) : Ev P e w ty (.binOp .eql t x y t') (.bool (a == b)) :=
  ⟨fun w' _ o ho _ => by unfold execOp; rw [ho]; simp [hx, hy, eqGuard, binOp, equalB hU]⟩
/-- two structs of one type, compared -/
theorem Ev.eqlA {t' : TypeId} {vs us : Array Value} {q : Bool} (hg : P.eqGuardType P.depth t = false) (hr : ∀ w, (Op.equal t (.agg vs) (.agg us)).run P w = .ok q w) (hx : ev e x = .agg vs) (hy : ev e y = .agg us) : Ev P e w ty (.binOp .eql t x y t') (.bool q) :=
  ⟨fun w' _ o ho _ => by
    have hp : (program : Sem Program).run P w' = .ok P w' := rfl
    unfold execOp; rw [ho]; simp [hx, hy, eqGuard, binOp, hr, hp, hg]⟩
end
theorem zero_of {P : Program} {t : TypeId} {z : Value} (h : (P.info? t).map (·.zero) = some (some z)) : ∀ w, (zeroValue t).run P w = .ok z w := by
  intro w
  cases hi : P.info? t with
  | none => simp [hi] at h
  | some i =>
    simp [hi] at h
    have ht : (typeInfo t).run P w = .ok i w := by unfold typeInfo program; simp only [Sem.run_bind, Sem.run, Result.andThen_ok, hi, Sem.run_pure]
    unfold zeroValue; simp only [Sem.run_bind, ht, Result.andThen_ok, h, Sem.run_pure]
/-- a cell of a block of ints -/
theorem intCell {w0 w : World} {S : List Nat} {L : List Blk} (H : SH w0 S w L) (i : Nat) {g : Nat} {T : TypeId} {ms : List Int} (hi : L[i]? = some ⟨g, T, ms.map fun n => Value.int .i64 n⟩) (k : Nat) (hk : k < ms.length) : w.cell? ⟨g, k, none⟩ = some (.int .i64 (ms.getD k 0)) :=
  H.ldL i hi k (by simp [hk])
/-- a list that is being filled: the first j elements stand, the others are z -/
def fillL {α : Type} (l : List α) (z : α) (j : Nat) : List α := l.take j ++ List.replicate (l.length - j) z
theorem fillL_length {α : Type} (l : List α) (z : α) (j : Nat) (h : j ≤ l.length) : (fillL l z j).length = l.length := by simp [fillL]; omega
theorem fillL_zero {α : Type} (l : List α) (z : α) : fillL l z 0 = List.replicate l.length z := by simp [fillL]
theorem fillL_all {α : Type} (l : List α) (z : α) : fillL l z l.length = l := by simp [fillL]
theorem fillL_set {α : Type} (l : List α) (z : α) (j : Nat) (h : j < l.length) : (fillL l z j).set j (l[j]) = fillL l z (j + 1) := by
  have e : l.length - j = (l.length - (j + 1)) + 1 := by omega
  unfold fillL
  have e2 : j - (l.take j).length = 0 := by simp; omega
  rw [List.set_append_right _ _ (by simp; omega), e, List.replicate_succ, e2, List.set_cons_zero, ← List.take_append_getElem h, List.append_assoc]
  rfl
/-- how many are not set yet -/
def openN (l : List Bool) : Nat := (l.filter (fun b => !b)).length
theorem openN_set : ∀ (l : List Bool) (k : Nat), k < l.length → l.getD k false = false → openN (l.set k true) < openN l
  | [], _, h, _ => by simp at h
  | b :: l, 0, _, hb => by
    simp at hb; subst hb
    simp [openN]
  | b :: l, k + 1, h, hb => by
    have := openN_set l k (by simpa using h) (by simpa using hb)
    cases b <;> simpa [openN] using this
end Go.W

/-
  Arguments, read: what the cells of a datum are, type by type.
-/
set_option linter.all false
namespace Go.W
open Go.RowKit Go.Deep

theorem exists_list {α : Type} {p : Nat → α → Prop} : ∀ (n : Nat), (∀ i, i < n → ∃ a, p i a) → ∃ l : List α, l.length = n ∧ ∀ i (h : i < l.length), p i l[i]
  | 0, _ => ⟨[], rfl, fun i h => absurd h (by simp)⟩
  | n + 1, h => by
    obtain ⟨l, h1, h2⟩ := exists_list (p := p) n fun i hi => h i (by omega)
    obtain ⟨a, ha⟩ := h n (by omega)
    refine ⟨l ++ [a], by simp [h1], fun i hi => ?_⟩
    by_cases hl : i < l.length
    · rw [List.getElem_append_left hl]; exact h2 i hl
    · simp only [List.length_append, List.length_cons, List.length_nil] at hi
      obtain rfl : i = n := by omega
      rw [List.getElem_append_right (by omega)]
      simpa [h1] using ha
section
variable {H : Type} {enc : TypeId × Value → H} {P : Program} {w : World} {base : Nat} {spare : Nat → Bool} {held : Bool}
/-- a datum of type t is some 'a', whose cells are 'cells a', and G holds of it -/
structure Rd (enc : TypeId × Value → H) (P : Program) (w : World) (base : Nat) (spare : Nat → Bool) (held : Bool) (t : TypeId) {α : Type} (cells : α → List Value) (G : α → Prop) : Prop where
  out : ∀ fuel cs x, DataW.trod enc P w base spare held fuel t cs = some x → ∃ a, cs = cells a ∧ G a
theorem Rd.int {t : TypeId} {k : IntKind} (ht : P.underlying t = some (.int k)) : Rd enc P w base spare held t (fun n : Int => [.int k n]) (fun n => (Lit.int k n).wf = true) :=
  ⟨fun _ _ _ h => by obtain ⟨n, h1, _, h2⟩ := DataW.trod_int ht h; exact ⟨n, h1, h2⟩⟩
theorem Rd.bool {t : TypeId} (ht : P.underlying t = some .bool) : Rd enc P w base spare held t (fun b : Bool => [.bool b]) (fun _ => True) :=
  ⟨fun _ _ _ h => by obtain ⟨n, h1, _⟩ := DataW.trod_bool ht h; exact ⟨n, h1, trivial⟩⟩
theorem Rd.mono {t : TypeId} {α : Type} {cells : α → List Value} {G G' : α → Prop} (h : Rd enc P w base spare held t cells G) (hG : ∀ a, G a → G' a) : Rd enc P w base spare held t cells G' :=
  ⟨fun f cs x hx => by obtain ⟨a, h1, h2⟩ := h.out f cs x hx; exact ⟨a, h1, hG a h2⟩⟩
structure SlA (α : Type) where
  A : Option Addr
  cap : Nat
  l : List α
def slCells {α : Type} (s : SlA α) : List Value := [.slice s.A s.l.length s.cap]
structure SlG {α : Type} (w : World) (sz : Nat) (cells : α → List Value) (G : α → Prop) (s : SlA α) : Prop where
  rows : RowsAt sz cells w s.A s.l
  len : s.l.length ≤ maxLen
  all : ∀ a ∈ s.l, G a
  le : s.l.length ≤ s.cap
theorem cellsAt_of {b : Nat} : ∀ (vs : List Value) (o : Nat), (∀ j (h : j < vs.length), w.cell? ⟨b, o + j, none⟩ = some vs[j]) → cellsAt w b o vs
  | [], _, _ => trivial
  | v :: vs, o, h => ⟨h 0 (by simp), cellsAt_of vs (o + 1) fun j hj => by
      have := h (j + 1) (by simpa using hj)
      rw [show o + 1 + j = o + (j + 1) by omega]; exact this⟩
theorem Rd.slice {t e : TypeId} {sz : Nat} {α : Type} {cells : α → List Value} {G : α → Prop} (ht : P.underlying t = some (.slice e)) (hs : P.cellsOf e = sz) (h0 : 0 < sz) (he : Rd enc P w base spare held e cells G) :
    Rd enc P w base spare held t (slCells (α := α)) (SlG w sz cells G) := ⟨fun fuel cs x h => by
  rcases open_slice ht h with ⟨h1, _⟩ | ⟨a, len, cap, m, n, D, Pl, rfl, hb, hl, hm, hmm, _, hx⟩
  · exact ⟨⟨none, 0, []⟩, h1, ⟨RowsAt.nil, by simp, by simp, by simp⟩⟩
  · rw [hs] at hx
    have hlm : len ≤ m := by rw [hmm]; split <;> omega
    obtain ⟨l, h1, h2⟩ := exists_list (p := fun i (q : α) => G q ∧ w.cells? base (a.add (i * sz)) sz = some (cells q)) len fun i hi => by
      obtain ⟨cs', c1, c2⟩ := hx i (by omega)
      obtain ⟨q, rfl, hq⟩ := he.out _ _ _ c2
      exact ⟨q, hq, c1⟩
    refine ⟨⟨some a, cap, l⟩, by simp [slCells, h1], ⟨fun k hk => ?_, ?_, fun q hq => ?_, by show l.length ≤ cap; omega⟩⟩
    · have hk : k < l.length := hk
      obtain ⟨b, o, spot⟩ := a
      have hspot : spot = none := by
        obtain ⟨_, hlen, hc⟩ := World.cells?_some (h2 0 (by omega)).2
        have h3 := hc 0 h0
        rw [List.getElem?_eq_getElem (by omega)] at h3
        simpa [Addr.add] using World.cell?_spot h3
      subst hspot
      refine ⟨b, o, rfl, ?_⟩
      obtain ⟨_, hlen, hc⟩ := World.cells?_some (h2 k hk).2
      refine cellsAt_of _ _ fun j hj => ?_
      have hj : j < (cells l[k]).length := hj
      have h3 := hc j (by omega)
      rw [addr_add, addr_add] at h3
      rw [h3]; exact List.getElem?_eq_getElem hj
    · show l.length ≤ maxLen; omega
    · obtain ⟨i, hi, rfl⟩ := List.mem_iff_getElem.1 hq
      exact (h2 i hi).1⟩
theorem RowsAt.ones {α : Type} {f : α → Value} {A : Option Addr} {l : List α} (h : RowsAt 1 (fun a => [f a]) w A l) : OnesAt f w A l := fun k hk => by
  obtain ⟨b, o, h1, h2⟩ := h k hk
  exact ⟨b, o, h1, by simpa using h2.1⟩
/-- fields of a struct, from an offset on -/
structure RdF (enc : TypeId × Value → H) (P : Program) (w : World) (base : Nat) (spare : Nat → Bool) (held : Bool) (fs : List Field) (off tot : Nat) {α : Type} (cells : α → List Value) (G : α → Prop) : Prop where
  out : ∀ cs : List Value, cs.length = tot → (∀ (i : Nat) (f : Field), fs[i]? = some f → ∃ n x, DataW.trod enc P w base spare held n f.type ((cs.drop f.offset).take (P.cellsOf f.type)) = some x) → ∃ a, cs.drop off = cells a ∧ G a
theorem RdF.nil {off : Nat} : RdF enc P w base spare held [] off off (fun _ : Unit => []) (fun _ => True) := ⟨fun cs h _ => ⟨(), by rw [List.drop_eq_nil_of_le (by omega)], trivial⟩⟩
theorem RdF.cons {f : Field} {fs : List Field} {off tot sz : Nat} {α β : Type} {cA : α → List Value} {cB : β → List Value} {GA : α → Prop} {GB : β → Prop} {T : TypeId} (hA : Rd enc P w base spare held T cA GA) (hT : f.type = T) (ho : f.offset = off) (hs : P.cellsOf T = sz)
    (hB : RdF enc P w base spare held fs (off + sz) tot cB GB) : RdF enc P w base spare held (f :: fs) off tot (fun p : α × β => cA p.1 ++ cB p.2) (fun p => GA p.1 ∧ GB p.2) := ⟨fun cs hl h => by
  subst hT
  obtain ⟨n, x, hx⟩ := h 0 f rfl
  obtain ⟨a, ha, ga⟩ := hA.out _ _ _ hx
  obtain ⟨b, hb, gb⟩ := hB.out cs hl fun i f' hf => h (i + 1) f' (by simpa using hf)
  refine ⟨(a, b), ?_, ga, gb⟩
  rw [ho, hs] at ha
  simp only
  rw [← ha, ← hb, ← List.drop_drop, List.take_append_drop]⟩
theorem Rd.struct {t : TypeId} {fs : List Field} {tot : Nat} {α : Type} {cells : α → List Value} {G : α → Prop} (ht : P.underlying t = some (.struct fs.toArray)) (hs : P.cellsOf t = tot) (hF : RdF enc P w base spare held fs 0 tot cells G) : Rd enc P w base spare held t cells G := ⟨fun fuel cs x h => by
  obtain ⟨xs, n, _, _, hl, hxl, hx⟩ := DataW.trod_struct ht h
  obtain ⟨a, h1, h2⟩ := hF.out cs (by omega) fun i f hf => by
    have h3 := hx i f (by simpa using hf)
    have hi : i < fs.length := (List.getElem?_eq_some_iff.1 hf).1
    rw [List.getElem?_eq_getElem (by simp at hxl; omega)] at h3
    exact ⟨n, _, h3⟩
  exact ⟨a, by simpa using h1, h2⟩⟩
/-- an array of three elements of one cell -/
theorem Rd.array3 {t e : TypeId} {α : Type} {f : α → Value} {G : α → Prop} (ht : P.underlying t = some (.array 3 e)) (hs : P.cellsOf e = 1) (hc : P.cellsOf t = 3) (he : Rd enc P w base spare held e (fun a => [f a]) G) :
    Rd enc P w base spare held t (fun p : α × α × α => [f p.1, f p.2.1, f p.2.2]) (fun p => G p.1 ∧ G p.2.1 ∧ G p.2.2) := ⟨fun fuel cs x h => by
  obtain ⟨xs, m, _, _, hl, hxl, hx⟩ := DataW.trod_array ht h
  rw [hs] at hx
  have hl3 : cs.length = 3 := by rw [hl, hc]
  match cs, hl3 with
  | [c0, c1, c2], _ =>
    have g : ∀ i (hi : i < 3), ∃ a, (([c0, c1, c2] : List Value).drop (i * 1)).take 1 = [f a] ∧ G a := fun i hi => by
      have h3 := hx i hi
      rw [List.getElem?_eq_getElem (by omega)] at h3
      exact he.out _ _ _ h3
    obtain ⟨a0, h0, g0⟩ := g 0 (by omega)
    obtain ⟨a1, h1, g1⟩ := g 1 (by omega)
    obtain ⟨a2, h2, g2⟩ := g 2 (by omega)
    simp at h0 h1 h2
    subst h0 h1 h2
    exact ⟨(a0, a1, a2), rfl, g0, g1, g2⟩⟩
theorem okWide_array {r : Reach} {t e : TypeId} {n : Nat} {v : Value} (ht : P.underlying t = some (.array n e)) (h : Value.okWide P w r base t v) : ∃ cs, v = .agg cs ∧ cs.size = P.cellsOf t := by
  simp only [Value.okWide, ht] at h
  obtain ⟨cs, h1, h2, _⟩ := h
  exact ⟨cs, h1, h2⟩
theorem Rd.conv {t : TypeId} {α β : Type} {cells : α → List Value} {G : α → Prop} (h : Rd enc P w base spare held t cells G) (f : α → β) {cells' : β → List Value} {G' : β → Prop} (hc : ∀ a, cells a = cells' (f a)) (hG : ∀ a, G a → G' (f a)) : Rd enc P w base spare held t cells' G' :=
  ⟨fun fu cs x hx => by obtain ⟨a, h1, h2⟩ := h.out fu cs x hx; exact ⟨f a, h1.trans (hc a), hG a h2⟩⟩
/-- of an argument -/
theorem Rd.arg1 {t : TypeId} {α : Type} {f : α → Value} {G : α → Prop} {v : Value} {d : DataW H} {p : List MemPlace} (h : Rd enc P w base spare held t (fun a => [f a]) G) (hv : v.cells = #[v]) (ht : DataW.Trod enc P w base spare held t v d p) : ∃ a, v = f a ∧ G a := by
  obtain ⟨fuel, hf⟩ := ht
  obtain ⟨a, h1, h2⟩ := h.out _ _ _ hf
  rw [hv] at h1
  simp at h1
  exact ⟨a, h1, h2⟩
theorem Rd.argN {t : TypeId} {α : Type} {cells : α → List Value} {G : α → Prop} {vs : Array Value} {d : DataW H} {p : List MemPlace} (h : Rd enc P w base spare held t cells G) (ht : DataW.Trod enc P w base spare held t (.agg vs) d p) : ∃ a, vs = (cells a).toArray ∧ G a := by
  obtain ⟨fuel, hf⟩ := ht
  obtain ⟨a, h1, h2⟩ := h.out _ _ _ hf
  refine ⟨a, ?_, h2⟩
  have : vs.toList = cells a := by simpa [Value.cells] using h1
  rw [← this]
end
theorem wf_i64 {n : Int} (h : (Lit.int .i64 n).wf = true) : -9223372036854775808 ≤ n ∧ n ≤ 9223372036854775807 := by
  exact bounds_i64 h
end Go.W

/-
  A small logic for walking loaded Go functions: the frame is a function from slots to values, the code is walked by rules, and the world is a variable
  about which one hypothesis 'SH w0 S w L' says all that is known: blocks of the list L hold just what the list says, and everything else that was there in w0 (but for the blocks S) is unchanged.
-/
set_option linter.all false
namespace Go.WD
open Go.RowKit

structure Bel (B : Nat) (w w' : World) : Prop extends Go.RowKit.Below B w w' where
  drawn : w.drawn ≤ w'.drawn
theorem Bel.refl (B : Nat) (w : World) : Bel B w w := ⟨Go.RowKit.Below.refl B w, Nat.le_refl _⟩
theorem Bel.trans {B : Nat} {a b c : World} (h : Bel B a b) (k : Bel B b c) : Bel B a c := ⟨h.toBelow.trans k.toBelow, Nat.le_trans h.drawn k.drawn⟩
theorem Bel.mono {B B' : Nat} {w w' : World} (h : Bel B w w') (hB : B' ≤ B) : Bel B' w w' := ⟨h.toBelow.mono hB, h.drawn⟩
theorem Bel.alloc {B : Nat} {a w : World} (h : Bel B a w) (hB : B ≤ w.heap.size) (o : Obj) : Bel B a (w.alloc o) := ⟨h.toBelow.alloc hB o, h.drawn⟩
theorem Bel.heap_alloc (w : World) (o : Obj) (k : Nat) (h : k < w.heap.size) : (w.alloc o).heap[k]? = w.heap[k]? := Go.RowKit.Below.heap_alloc w o k h
theorem Bel.heap_setCell (w : World) (a : Addr) (u : Value) (k : Nat) (h : k ≠ a.block) : (w.setCell a u).heap[k]? = w.heap[k]? := Go.RowKit.Below.heap_setCell w a u k h
theorem Bel.cell {B : Nat} {w w' : World} (h : Bel B w w') {p : Addr} (hp : p.block < B) : w'.cell? p = w.cell? p := h.toBelow.cell hp

abbrev Env := Nat → Value
def envOf (a : Act) : Env := fun t => a.tmps.getD t undef
def ev (e : Env) : Operand → Value
  | .tmp t => e t
  | .const v => v
  | .global g => .pointer (some ⟨g, 0, none⟩)
  | .func f => .func (.func f) #[] #[]
def upd (e : Env) (d : Nat) (v : Value) : Env := fun j => bif Nat.beq j d then v else e j

theorem eval_eq (a : Act) : a.eval = ev (envOf a) := by funext x; cases x <;> rfl
theorem envOf_put {a : Act} {d N : Nat} (v : Value) (hs : a.tmps.size = N) (hd : Nat.blt d N = true) : envOf (a.put (some d) v) = upd (envOf a) d v := by
  have hd' : d < a.tmps.size := by simp [Nat.blt] at hd; omega
  funext j
  simp only [envOf, Act.put, upd]
  by_cases h : j = d
  · subst h; simp [hd']
  · have hb : Nat.beq j d = false := by
      cases hx : Nat.beq j d with
      | false => rfl
      | true => exact absurd (Nat.eq_of_beq_eq_true hx) h
    rw [hb]; simp [Ne.symm h]
theorem size_put (a : Act) (d : Option Tmp) (v : Value) : (a.put d v).tmps.size = a.tmps.size := by cases d <;> simp [Act.put]
theorem defers_put (a : Act) (d : Option Tmp) (v : Value) : (a.put d v).defers = a.defers := by cases d <;> rfl

/-! ### codes -/
def post (N : Nat) (Kn : Env → World → Prop) (Kx : Nat → Env → World → Prop) (Kr : Env → World → Prop) : Exit → Act → World → Prop
  | .normal, a, w => a.tmps.size = N ∧ a.defers = [] ∧ Kn (envOf a) w
  | .exit id, a, w => a.tmps.size = N ∧ a.defers = [] ∧ Kx id (envOf a) w
  | .ret, a, w => a.tmps.size = N ∧ a.defers = [] ∧ Kr (envOf a) w
  | _, _, _ => False
structure WP (P : Program) (N : Nat) (c : Code) (Kn : Env → World → Prop) (Kx : Nat → Env → World → Prop) (Kr : Env → World → Prop) (e : Env) (w : World) : Prop where
  run : ∀ a : Act, envOf a = e → a.tmps.size = N → a.defers = [] → c.wp P (post N Kn Kx Kr) a w
def NoX : Nat → Env → World → Prop := fun _ _ _ => False
def NoR : Env → World → Prop := fun _ _ => False
structure XB (id : Nat) (Kn : Env → World → Prop) (Kx : Nat → Env → World → Prop) (j : Nat) (e : Env) (w : World) : Prop where
  out : if j = id then Kn e w else Kx j e w

section
variable {P : Program} {N : Nat} {Kn : Env → World → Prop} {Kx : Nat → Env → World → Prop} {Kr : Env → World → Prop} {e : Env} {w : World}
theorem XB.hit {id : Nat} (h : Kn e w) : XB id Kn Kx id e w := ⟨by simpa using h⟩
theorem XB.miss {id j : Nat} (hj : Nat.beq j id = false) (h : Kx j e w) : XB id Kn Kx j e w := ⟨by rw [if_neg (fun he => by subst he; rw [Nat.beq_refl] at hj; cases hj)]; exact h⟩
theorem post_then (N : Nat) (y : Code) : ∀ ex a w, post N (fun e w => WP P N y Kn Kx Kr e w) Kx Kr ex a w → Exit.then (y.wp P (post N Kn Kx Kr)) (post N Kn Kx Kr) ex a w := by
  intro ex a w h
  cases ex <;> simp only [post, Exit.then] at h ⊢ <;> try exact h
  exact h.2.2.run _ rfl h.1 h.2.1
theorem WP.seq {x y : Code} (h : WP P N x (fun e w => WP P N y Kn Kx Kr e w) Kx Kr e w) : WP P N (.seq x y) Kn Kx Kr e w :=
  ⟨fun a h1 h2 h3 => wp_seq (Code.wp_mono (post_then N y) (h.run a h1 h2 h3))⟩
theorem WP.skip (h : Kn e w) : WP P N .skip Kn Kx Kr e w := ⟨fun _ h1 h2 h3 => wp_skip ⟨h2, h3, h1 ▸ h⟩⟩
theorem WP.label {l : Nat} (h : Kn e w) : WP P N (.label l) Kn Kx Kr e w := ⟨fun _ h1 h2 h3 => wp_label ⟨h2, h3, h1 ▸ h⟩⟩
theorem WP.exit {id : Nat} (h : Kx id e w) : WP P N (.exit id) Kn Kx Kr e w := ⟨fun _ h1 h2 h3 => wp_exit ⟨h2, h3, h1 ▸ h⟩⟩
theorem WP.ret (h : Kr e w) : WP P N .ret Kn Kx Kr e w := ⟨fun _ h1 h2 h3 => wp_ret ⟨h2, h3, h1 ▸ h⟩⟩
theorem WP.block {id : Nat} {c : Code} (h : WP P N c Kn (XB id Kn Kx) Kr e w) : WP P N (.block id c) Kn Kx Kr e w :=
  ⟨fun a h1 h2 h3 => wp_block (Code.wp_mono (fun ex a w h => by
    cases ex <;> simp only [post, Exit.inBlock] at h ⊢ <;> try exact h
    rename_i j
    by_cases hj : j = id
    · have := h.2.2.out; simp only [hj, if_true] at this ⊢; exact ⟨h.1, h.2.1, this⟩
    · have := h.2.2.out; simp only [hj, if_false] at this ⊢; exact ⟨h.1, h.2.1, this⟩) (h.run a h1 h2 h3))⟩
theorem WP.cond {c : Operand} {x y : Code} {b : Bool} (hc : ev e c = .bool b) (ht : b = true → WP P N x Kn Kx Kr e w) (hf : b = false → WP P N y Kn Kx Kr e w) : WP P N (.cond c x y) Kn Kx Kr e w :=
  ⟨fun a h1 h2 h3 => wp_cond_split (t := b) (by rw [eval_eq, h1]; exact hc) (fun h => (ht h).run a h1 h2 h3) (fun h => (hf h).run a h1 h2 h3)⟩
theorem WP.cond_t {c : Operand} {x y : Code} (hc : ev e c = .bool true) (ht : WP P N x Kn Kx Kr e w) : WP P N (.cond c x y) Kn Kx Kr e w := WP.cond hc (fun _ => ht) (fun h => by cases h)
theorem WP.cond_f {c : Operand} {x y : Code} (hc : ev e c = .bool false) (hf : WP P N y Kn Kx Kr e w) : WP P N (.cond c x y) Kn Kx Kr e w := WP.cond hc (fun h => by cases h) (fun _ => hf)
theorem WP.mono {c : Code} {Kn' : Env → World → Prop} {Kx' : Nat → Env → World → Prop} {Kr' : Env → World → Prop} (h : WP P N c Kn Kx Kr e w)
    (hn : ∀ e w, Kn e w → Kn' e w) (hx : ∀ j e w, Kx j e w → Kx' j e w) (hr : ∀ e w, Kr e w → Kr' e w) : WP P N c Kn' Kx' Kr' e w :=
  ⟨fun a h1 h2 h3 => Code.wp_mono (fun ex a w h => by
    cases ex <;> simp only [post] at h ⊢
    · exact ⟨h.1, h.2.1, hn _ _ h.2.2⟩
    · exact ⟨h.1, h.2.1, hx _ _ _ h.2.2⟩
    · exact ⟨h.1, h.2.1, hr _ _ h.2.2⟩) (h.run a h1 h2 h3)⟩
/-- a loop with an invariant on the frame and the world -/
theorem WP.loop0 {c : Code} (I : Env → World → Prop) (μ : Env → World → Nat) (h0 : I e w)
    (h : ∀ e w, I e w → WP P N c (fun e' w' => I e' w' ∧ μ e' w' < μ e w) Kx Kr e w) : WP P N (.loop c) Kn Kx Kr e w :=
  ⟨fun a h1 h2 h3 => wp_loop (fun a w => a.tmps.size = N ∧ a.defers = [] ∧ I (envOf a) w) (fun a w => μ (envOf a) w) ⟨h2, h3, h1 ▸ h0⟩ fun a w hI =>
    Code.wp_mono (fun ex a' w' hp => by
      cases ex <;> simp only [post, Exit.then] at hp ⊢ <;> try exact hp
      exact ⟨⟨hp.1, hp.2.1, hp.2.2.1⟩, hp.2.2.2⟩) ((h _ w hI.2.2).run a rfl hI.1 hI.2.1)⟩
/-- slots of the list M are whatever u says, the others as e says -/
def mix (M : List Nat) (u e : Env) : Env := fun j => bif M.elem j then u j else e j
structure Agree (M : List Nat) (e' e : Env) : Prop where
  out : ∀ j, M.elem j = false → e' j = e j
theorem Agree.refl (M : List Nat) (e : Env) : Agree M e e := ⟨fun _ _ => rfl⟩
theorem Agree.mix (M : List Nat) (u e : Env) : Agree M (mix M u e) e := ⟨fun j hj => by simp only [WD.mix, hj]; rfl⟩
theorem Agree.mix2 {M M2 : List Nat} {u e' e : Env} (hs : M2.all (fun j => M.elem j) = true) (h : Agree M e' e) : Agree M (WD.mix M2 u e') e := ⟨fun j hj => by
  simp only [WD.mix]
  cases hm : M2.elem j with
  | false => exact h.out j hj
  | true =>
    have := List.all_eq_true.1 hs j (by simpa using hm)
    rw [this] at hj; cases hj⟩
theorem Agree.upd {M : List Nat} {d : Nat} {v : Value} {e' e : Env} (hd : M.elem d = true) (h : Agree M e' e) : Agree M (upd e' d v) e := ⟨fun j hj => by
  simp only [WD.upd]
  cases hb : Nat.beq j d with
  | false => exact h.out j hj
  | true => have : j = d := Nat.eq_of_beq_eq_true hb
            subst this; rw [hd] at hj; cases hj⟩
theorem Agree.eq {M : List Nat} {e' e : Env} (h : Agree M e' e) : e' = WD.mix M e' e := by
  funext j; simp only [WD.mix]; cases hj : M.elem j with
  | false => exact h.out j hj
  | true => rfl
/-- THE RULE FOR LOOPS: M: the slots that the body writes; g: a number that goes down; I: the invariant, on a frame of which only the slots of M count -/
theorem WP.loop {c : Code} (M : List Nat) (I : Nat → Env → World → Prop) (g0 : Nat) (h0 : I g0 e w)
    (h : ∀ g u w, I g u w → WP P N c (fun e' w' => Agree M e' e ∧ ∃ g', g' < g ∧ I g' e' w') Kx Kr (WD.mix M u e) w) : WP P N (.loop c) Kn Kx Kr e w :=
  ⟨fun a h1 h2 h3 => wp_loop_ghost (fun n a w => a.tmps.size = N ∧ a.defers = [] ∧ Agree M (envOf a) e ∧ I n (envOf a) w) g0 ⟨h2, h3, h1 ▸ Agree.refl M _, h1 ▸ h0⟩ fun n a w hI =>
    Code.wp_mono (fun ex a' w' hp => by
      cases ex <;> simp only [post, Exit.then] at hp ⊢ <;> try exact hp
      obtain ⟨p1, p2, p3, g', p4, p5⟩ := hp
      exact ⟨g', p4, p1, p2, p3, p5⟩) ((h n (envOf a) w hI.2.2.2).run a hI.2.2.1.eq hI.1 hI.2.1)⟩
/-- a known slot, written out -/
theorem upd_same {t : Nat} {v : Value} {e : Env} (h : e t = v) : upd e t v = e := by
  funext j; simp only [upd]; cases hb : Nat.beq j t with
  | false => rfl
  | true => have : j = t := Nat.eq_of_beq_eq_true hb
            subst this; exact h.symm
theorem WP.know {c : Code} {t : Nat} {v : Value} (h : e t = v) (hw : WP P N c Kn Kx Kr (upd e t v) w) : WP P N c Kn Kx Kr e w := by rw [upd_same h] at hw; exact hw

/-! ### calls -/
def resOf (e : Env) : List ResultVar → Option Value
  | [.tmp t] => some (e t)
  | [.tmp t, .tmp u] => some (.tuple #[e t, e u])
  | [.tmp t, .tmp u, .tmp v] => some (.tuple #[e t, e u, e v])
  | [.tmp t, .tmp u, .tmp v, .tmp x] => some (.tuple #[e t, e u, e v, e x])
  | [] => some (.tuple #[])
  | _ => none
theorem results_of {fn : Func} {l : List ResultVar} (hl : fn.results = l.toArray) {tmps : Array Value} {v : Value} (h : resOf (fun t => tmps.getD t undef) l = some v) (w : World) :
    (results fn tmps).run P w = .ok v w := by
  unfold results
  rw [hl]
  unfold resOf at h
  split at h <;> cases h <;> simp
def envAt (args : List Value) : Env := fun j => (args[j]?).getD undef
theorem Calls.ofWP {f : FuncId} {fn : Func} {c : Code} {args : List Value} {l : List ResultVar} {N : Nat} {R : Ending → World → Prop}
    (hf : P.funcs[f]? = some fn) (hb : fn.body = some c) (hl : fn.results = l.toArray) (hN : fn.ntmps = N) (hle : Nat.ble args.length N = true)
    (h : WP P N c (fun e w => ∃ v, resOf e l = some v ∧ R (.returned v) w) NoX (fun e w => ∃ v, resOf e l = some v ∧ R (.returned v) w) (envAt args) w) :
    Calls P f args.toArray w R := by
  have hle' : args.length ≤ N := by simpa using hle
  refine calls_of_wp hf hb (Code.wp_mono (fun ex a w hp => ?_) (h.run _ ?_ ?_ rfl))
  · cases ex <;> simp only [post, NoX] at hp <;> simp only [bodyPost]
    · obtain ⟨_, h2, v, h3, h4⟩ := hp
      exact ⟨h2, v, results_of hl h3 w, h4⟩
    · exact hp.2.2
    · obtain ⟨_, h2, v, h3, h4⟩ := hp
      exact ⟨h2, v, results_of hl h3 w, h4⟩
  · funext j
    simp only [envOf, envAt]
    by_cases hj : j < args.length
    · simp [hj, Array.getElem?_append]
    · simp [hj, Array.getElem?_append, Array.getElem?_replicate]
      split <;> rfl
  · simp [hN]; omega
end

/-! ### what is known of memory -/
structure Blk where
  g : Nat
  T : TypeId
  cs : List Value
/-- what is known of the world w: the blocks of L hold just what L says (none frozen); all other blocks of w0, but those of S, are as they were in w0 -/
structure SH (w0 : World) (S : List Nat) (w : World) (L : List Blk) : Prop where
  os : w.os = w0.os
  tape : w.tape = w0.tape
  output : w.output = w0.output
  size : w0.heap.size ≤ w.heap.size
  low : ∀ k, k < w0.heap.size → k ∉ S → w.heap[k]? = w0.heap[k]?
  own : ∀ b ∈ L, w.heap[b.g]? = some (.cells b.cs.toArray b.T (0, 0))
  may : ∀ b ∈ L, w0.heap.size ≤ b.g ∨ b.g ∈ S
  nodup : (L.map (·.g)).Nodup
  drawn : w0.drawn ≤ w.drawn
theorem SH.refl (w : World) : SH w [] w [] := ⟨rfl, rfl, rfl, Nat.le_refl _, fun _ _ _ => rfl, by simp, by simp, by simp, Nat.le_refl _⟩
theorem SH.below {w0 w : World} {L : List Blk} (h : SH w0 [] w L) : Bel w0.heap.size w0 w := ⟨⟨h.os, h.tape, h.output, h.size, fun k hk => h.low k hk (by simp)⟩, h.drawn⟩
theorem SH.lt {w0 w : World} {S : List Nat} {L : List Blk} (h : SH w0 S w L) {b : Blk} (hb : b ∈ L) : b.g < w.heap.size := by
  rcases Nat.lt_or_ge b.g w.heap.size with hlt | hge
  · exact hlt
  · have := h.own b hb; rw [Array.getElem?_eq_none hge] at this; cases this
theorem SH.toBelow {w0 w w' : World} {S : List Nat} {L : List Blk} (h : SH w0 S w L) (hb : Bel w.heap.size w w') : SH w0 S w' L where
  os := hb.os.trans h.os
  tape := hb.tape.trans h.tape
  output := hb.output.trans h.output
  size := Nat.le_trans h.size hb.size
  low k hk hS := (hb.block k (Nat.lt_of_lt_of_le hk h.size)).trans (h.low k hk hS)
  own b hm := (hb.block _ (h.lt hm)).trans (h.own b hm)
  may := h.may
  nodup := h.nodup
  drawn := Nat.le_trans h.drawn hb.drawn
theorem SH.ldL {w0 w : World} {S : List Nat} {L : List Blk} (h : SH w0 S w L) (i : Nat) {b : Blk} (hi : L[i]? = some b) (k : Nat) {v : Value} (hk : b.cs[k]? = some v) : w.cell? ⟨b.g, k, none⟩ = some v := by
  have hm : b ∈ L := List.mem_of_getElem? hi
  have := h.own b hm
  simp [World.cell?, this, hk]
theorem cell_lt {w : World} {a : Addr} {v : Value} (h : w.cell? a = some v) : a.block < w.heap.size := by
  rcases Nat.lt_or_ge a.block w.heap.size with hlt | hge
  · exact hlt
  · simp [World.cell?, Array.getElem?_eq_none hge] at h
theorem SH.ld0 {w0 w : World} {L : List Blk} (h : SH w0 [] w L) {a : Addr} {v : Value} (hc : w0.cell? a = some v) : w.cell? a = some v :=
  (h.below.cell (cell_lt hc)).trans hc
theorem cell_below {w w' : World} (hb : Bel w.heap.size w w') {a : Addr} {v : Value} (hc : w.cell? a = some v) : w'.cell? a = some v := (hb.cell (cell_lt hc)).trans hc
theorem SH.drop {w0 w : World} {S : List Nat} {L : List Blk} (h : SH w0 S w L) {L' : List Blk} (hs : L'.Sublist L) : SH w0 S w L' :=
  ⟨h.os, h.tape, h.output, h.size, h.low, fun b hb => h.own b (hs.subset hb), fun b hb => h.may b (hs.subset hb), (hs.map _).nodup h.nodup, h.drawn⟩
theorem SH.alloc {w0 w : World} {S : List Nat} {L : List Blk} (h : SH w0 S w L) (T : TypeId) (cs : List Value) :
    SH w0 S (w.alloc (.cells cs.toArray T)) (⟨w.heap.size, T, cs⟩ :: L) where
  os := h.os
  tape := h.tape
  output := h.output
  size := by
    show w0.heap.size ≤ (w.heap.push _).size
    rw [Array.size_push]; have := h.size; omega
  low k hk hS := (Bel.heap_alloc w _ k (Nat.lt_of_lt_of_le hk h.size)).trans (h.low k hk hS)
  own b hm := by
    rcases List.mem_cons.1 hm with rfl | hm
    · show (w.heap.push _)[w.heap.size]? = _
      simp
    · exact (Bel.heap_alloc w _ b.g (h.lt hm)).trans (h.own b hm)
  may b hm := by
    rcases List.mem_cons.1 hm with rfl | hm
    · exact .inl h.size
    · exact h.may b hm
  nodup := by
    simp only [List.map_cons, List.nodup_cons]
    refine ⟨fun hc => ?_, h.nodup⟩
    obtain ⟨b, hb, he⟩ := List.mem_map.1 hc
    have := h.lt hb; omega
  drawn := h.drawn
theorem SH.drew {w0 w : World} {S : List Nat} {L : List Blk} (h : SH w0 S w L) : SH w0 S { w with drawn := w.drawn + 1 } L := ⟨h.os, h.tape, h.output, h.size, h.low, h.own, h.may, h.nodup, Nat.le_succ_of_le h.drawn⟩
/-- a store into a known block -/
theorem SH.set {w0 w : World} {S : List Nat} {L : List Blk} (h : SH w0 S w L) (i : Nat) {b : Blk} (hi : L[i]? = some b) (k : Nat) (v : Value) :
    SH w0 S (w.setCell ⟨b.g, k, none⟩ v) (L.set i ⟨b.g, b.T, b.cs.set k v⟩) := by
  have hlen : i < L.length := (List.getElem?_eq_some_iff.1 hi).1
  have hgi : L[i] = b := (List.getElem?_eq_some_iff.1 hi).2
  have hm : b ∈ L := List.mem_of_getElem? hi
  have hmap : (L.set i ⟨b.g, b.T, b.cs.set k v⟩).map (·.g) = L.map (·.g) := by
    rw [List.map_set]
    have : b.g = (L.map (·.g))[i]'(by simpa using hlen) := by simp [hgi]
    rw [show (Blk.g ⟨b.g, b.T, b.cs.set k v⟩) = (L.map (·.g))[i]'(by simpa using hlen) from this, List.set_getElem_self]
  refine ⟨h.os, h.tape, h.output, by simpa [World.setCell] using h.size, fun j hj hS => ?_, fun c hc => ?_, fun c hc => ?_, by rw [hmap]; exact h.nodup, h.drawn⟩
  · rw [Bel.heap_setCell _ _ _ j (fun he => ?_)]
    · exact h.low j hj hS
    · have he : j = b.g := he
      subst he
      rcases h.may b hm with h1 | h1
      · omega
      · exact hS h1
  · rcases List.mem_iff_getElem?.1 hc with ⟨j, hj⟩
    rw [List.getElem?_set] at hj
    split at hj
    · rename_i hij
      subst hij
      cases hj
      have := h.own b hm
      simp only [World.setCell]
      simp [Array.getElem?_modify, this]
    · rename_i hij
      have hmc : c ∈ L := List.mem_of_getElem? hj
      rw [Bel.heap_setCell _ _ _ c.g (fun he => ?_)]
      · exact h.own c hmc
      · have he : c.g = b.g := he
        have hjl : j < L.length := (List.getElem?_eq_some_iff.1 hj).1
        have hcj : L[j] = c := (List.getElem?_eq_some_iff.1 hj).2
        have hn := h.nodup
        rw [List.nodup_iff_pairwise_ne, List.pairwise_iff_getElem] at hn
        rcases Nat.lt_or_gt_of_ne hij with hlt | hgt
        · exact hn i j (by simpa) (by simpa) hlt (by simp [hgi, hcj, he])
        · exact hn j i (by simpa) (by simpa) hgt (by simp [hgi, hcj, he])
  · have : c.g ∈ L.map (·.g) := by rw [← hmap]; exact List.mem_map_of_mem hc
    obtain ⟨d, hd, he⟩ := List.mem_map.1 this
    rw [← he]; exact h.may d hd
theorem SH.notFrozen {w0 w : World} {S : List Nat} {L : List Blk} (h : SH w0 S w L) {b : Blk} (hm : b ∈ L) (k : Nat) : w.frozen? ⟨b.g, k, none⟩ = false := by
  have := h.own b hm
  simp [World.frozen?, this]
end Go.WD

/-
  The rules for single operations: a region is a list of operations in one of three modes (plain; still: the world stays; quiet: the world may get new blocks).
-/
set_option linter.all false
namespace Go.WD
open Go.RowKit

def updo (e : Env) : Option Nat → Value → Env
  | some d, v => upd e d v
  | none, _ => e
theorem envOf_puto {a : Act} {N : Nat} (d : Option Nat) (v : Value) (hs : a.tmps.size = N) (hd : (d.all fun d => Nat.blt d N) = true) : envOf (a.put d v) = updo (envOf a) d v := by
  cases d with
  | none => rfl
  | some d => exact envOf_put v hs (by simpa using hd)

inductive Md where
  | plain | still | quiet

structure OPS (P : Program) (N : Nat) (m : Md) (ops : Array Oper) (K : Env → World → Prop) (l : List Oper) (e : Env) (w : World) : Prop where
  run : ∀ a : Act, envOf a = e → a.tmps.size = N → a.defers = [] → match m with
    | .plain => wpList P ops (post N K NoX NoR) l a w
    | .still => wpStill P ops w (fun a' => a'.tmps.size = N ∧ a'.defers = [] ∧ K (envOf a') w) l a
    | .quiet => wpQuiet P ops (fun w' => Bel w.heap.size w w') (fun a' => a'.tmps.size = N ∧ a'.defers = [] ∧ ∀ w', Bel w.heap.size w w' → K (envOf a') w') l a

section
variable {P : Program} {N : Nat} {m : Md} {ops : Array Oper} {K : Env → World → Prop} {Kn : Env → World → Prop} {Kx : Nat → Env → World → Prop} {Kr : Env → World → Prop} {e : Env} {w : World} {rest : List Oper} {o : Oper}
theorem OPS.nil (h : K e w) : OPS P N .plain ops K [] e w := ⟨fun _ h1 h2 h3 => wpList_nil ⟨h2, h3, h1 ▸ h⟩⟩
theorem OPS.nil_s (h : K e w) : OPS P N .still ops K [] e w := ⟨fun _ h1 h2 h3 => wpStill_nil ⟨h2, h3, h1 ▸ h⟩⟩
theorem OPS.nil_q (h : ∀ w', Bel w.heap.size w w' → K e w') : OPS P N .quiet ops K [] e w := ⟨fun _ h1 h2 h3 => wpQuiet_nil ⟨h2, h3, fun w' hb => h1 ▸ h w' hb⟩⟩
theorem post_up : ∀ ex a w, post N Kn NoX NoR ex a w → post N Kn Kx Kr ex a w := by
  intro ex a w h
  cases ex <;> simp only [post, NoX, NoR] at h ⊢ <;> try exact h
  · exact h.2.2.elim
  · exact h.2.2.elim
theorem wpStill_mono_post {Q Q' : Act → Prop} (hq : ∀ a, Q a → Q' a) : ∀ (l : List Oper) (a : Act), wpStill P ops w Q l a → wpStill P ops w Q' l a
  | [], _, h => hq _ h
  | o :: rest, a, h => by
    unfold wpStill at h ⊢
    split
    · rename_i hw; rw [if_pos hw] at h; exact Oper.still_mono (wpStill_mono_post hq rest) h
    · rename_i hw; rw [if_neg hw] at h; exact wpStill_mono_post hq rest _ h
theorem wpQuiet_mono_post {C : World → Prop} {Q Q' : Act → Prop} (hq : ∀ a, Q a → Q' a) : ∀ (l : List Oper) (a : Act), wpQuiet P ops C Q l a → wpQuiet P ops C Q' l a
  | [], _, h => hq _ h
  | o :: rest, a, h => by
    unfold wpQuiet at h ⊢
    split
    · rename_i hw; rw [if_pos hw] at h; exact Oper.quiet_mono (wpQuiet_mono_post hq rest) h
    · rename_i hw; rw [if_neg hw] at h; exact wpQuiet_mono_post hq rest _ h
theorem WP.region {id : Nat} {l : List Oper} (h : OPS P N .plain l.toArray Kn l e w) : WP P N (.region id l.toArray false) Kn Kx Kr e w :=
  ⟨fun a h1 h2 h3 => Code.wp_mono post_up (wp_region_lit (h.run a h1 h2 h3))⟩
theorem WP.region_still {id : Nat} {l : List Oper} (hm : P.follows .mixedOrders = true) (hB : Region.lexB .any l.toArray = true) (h : OPS P N .still l.toArray Kn l e { w with drawn := w.drawn + 1 }) : WP P N (.region id l.toArray true) Kn Kx Kr e w :=
  ⟨fun a h1 h2 h3 => wp_region_still_lit hm hB (h.run a h1 h2 h3)⟩
theorem WP.region_quiet {id : Nat} {l : List Oper} (hm : P.follows .mixedOrders = true) (hB : Region.lexB .any l.toArray = true) (h : OPS P N .quiet l.toArray Kn l e { w with drawn := w.drawn + 1 }) : WP P N (.region id l.toArray true) Kn Kx Kr e w :=
  ⟨fun a h1 h2 h3 => wp_region_quiet (C := fun w' => Bel w.heap.size { w with drawn := w.drawn + 1 } w') hm hB (Bel.refl _ _) (by
    refine (wpQuiet_mono_post ?_) _ _ (by simpa using h.run a h1 h2 h3)
    intro a' hh w' hw'
    exact ⟨hh.1, hh.2.1, hh.2.2 w' hw'⟩)⟩
theorem WP.region_tail {id : Nat} {l : List Oper} (n : Nat) (hm : P.follows .mixedOrders = true) (hB : Region.lexTailB .any l.toArray n = true)
    (h : OPS P N .still l.toArray (fun e w => OPS P N .plain l.toArray Kn (l.drop n) e w) (l.take n) e { w with drawn := w.drawn + 1 }) : WP P N (.region id l.toArray true) Kn Kx Kr e w :=
  ⟨fun a h1 h2 h3 => Code.wp_mono post_up (wp_region_still_tail n hm hB (by
    refine wpStill_mono_post ?_ _ _ (h.run a h1 h2 h3)
    intro a' hh
    exact hh.2.2.run a' rfl hh.1 hh.2.1))⟩

theorem WP.rstill {w0 : World} {S : List Nat} {L : List Blk} {id : Nat} {l : List Oper} (hm : P.follows .mixedOrders = true) (hB : Region.lexB .any l.toArray = true) (H : SH w0 S w L) (h : ∀ w', Bel w.heap.size w w' → SH w0 S w' L → OPS P N .still l.toArray Kn l e w') : WP P N (.region id l.toArray true) Kn Kx Kr e w :=
  WP.region_still hm hB (h _ ⟨⟨rfl, rfl, rfl, Nat.le_refl _, fun _ _ => rfl⟩, Nat.le_succ _⟩ H.drew)
theorem WP.rquiet {w0 : World} {S : List Nat} {L : List Blk} {id : Nat} {l : List Oper} (hm : P.follows .mixedOrders = true) (hB : Region.lexB .any l.toArray = true) (H : SH w0 S w L) (h : ∀ w', Bel w.heap.size w w' → SH w0 S w' L → OPS P N .quiet l.toArray Kn l e w') : WP P N (.region id l.toArray true) Kn Kx Kr e w :=
  WP.region_quiet hm hB (h _ ⟨⟨rfl, rfl, rfl, Nat.le_refl _, fun _ _ => rfl⟩, Nat.le_succ _⟩ H.drew)
theorem WP.rtail {w0 : World} {S : List Nat} {L : List Blk} {id : Nat} {l : List Oper} (n : Nat) (hm : P.follows .mixedOrders = true) (hB : Region.lexTailB .any l.toArray n = true) (H : SH w0 S w L)
    (h : ∀ w', Bel w.heap.size w w' → SH w0 S w' L → OPS P N .still l.toArray (fun e w => OPS P N .plain l.toArray Kn (l.drop n) e w) (l.take n) e w') : WP P N (.region id l.toArray true) Kn Kx Kr e w :=
  WP.region_tail n hm hB (h _ ⟨⟨rfl, rfl, rfl, Nat.le_refl _, fun _ _ => rfl⟩, Nat.le_succ _⟩ H.drew)
theorem OPS.nilq {w0 : World} {S : List Nat} {L : List Blk} (H : SH w0 S w L) (h : ∀ w', Bel w.heap.size w w' → SH w0 S w' L → K e w') : OPS P N .quiet ops K [] e w := OPS.nil_q fun w' hb => h w' hb (H.toBelow hb)

/-- operation 'op' (of type ty) yields v in every world that keeps what w holds, and leaves that world -/
structure Ev (P : Program) (e : Env) (w : World) (ty : TypeId) (op : Op) (v : Value) : Prop where
  run : ∀ w', Bel w.heap.size w w' → ∀ o : Oper, o.op = op → o.type = ty → (execOp (ev e) o).run P w' = .ok (.value v) w'
theorem wanted_none (hg : o.guard = none) (y : Nat → Option Bool) : Region.wanted o y = true := by simp [Region.wanted, hg]
theorem OPS.val {d : Nat} {v : Value} (hg : o.guard = none) (hd : o.dst = some d) (hN : Nat.blt d N = true) (hE : Ev P e w o.type o.op v) (h : OPS P N m ops K rest (upd e d v) w) : OPS P N m ops K (o :: rest) e w :=
  ⟨fun a h1 h2 h3 => by
    have hn := h.run (a.put (some d) v) (by rw [envOf_put v h2 hN, h1]) (by rw [size_put]; exact h2) (by rw [defers_put]; exact h3)
    have hr := fun w' hb => hE.run w' hb o rfl rfl
    rw [← h1, ← eval_eq] at hr
    cases m with
    | plain =>
      simp only at hn ⊢
      unfold wpList
      rw [if_pos (wanted_none hg _)]
      refine .inl ?_
      unfold Oper.wp
      rw [hr w (Bel.refl _ _)]
      simp only [Oper.upon, hd]
      exact hn
    | still =>
      simp only at hn ⊢
      unfold wpStill
      rw [if_pos (wanted_none hg _)]
      unfold Oper.still
      rw [hr w (Bel.refl _ _)]
      simp only [Oper.stillUpon, hd]
      exact ⟨trivial, hn⟩
    | quiet =>
      simp only at hn ⊢
      unfold wpQuiet
      rw [if_pos (wanted_none hg _)]
      refine ⟨v, fun w' hb => ?_, by rw [hd]; exact hn⟩
      unfold Oper.quietAt
      rw [hr w' hb]
      exact ⟨rfl, rfl⟩⟩
@[irreducible] def gv (b want : Bool) (v : Value) : Value := if (b == want) = true then v else undef
theorem yielded_of {a : Act} {j dj : Nat} {b : Bool} (hj : ops[j]?.bind (·.dst) = some dj) (hb : envOf a dj = .bool b) : yielded ops a.tmps j = some b := by
  unfold yielded
  simp only [envOf, undef] at hb
  rw [hj]
  simp only [Option.bind_some]
  cases ht : a.tmps[dj]? with
  | none => simp [ht] at hb
  | some u => simp [ht] at hb; subst hb; rfl
/-- a guarded operation -/
theorem OPS.gval {d j dj : Nat} {want b : Bool} {v : Value} (hg : o.guard = some (j, want)) (hj : ops[j]?.bind (·.dst) = some dj) (hb : e dj = .bool b) (hd : o.dst = some d) (hN : Nat.blt d N = true)
    (hE : b = want → Ev P e w o.type o.op v) (h : OPS P N m ops K rest (upd e d (gv b want v)) w) : OPS P N m ops K (o :: rest) e w :=
  ⟨fun a h1 h2 h3 => by
    have hn := h.run (a.put (some d) (gv b want v)) (by rw [envOf_put _ h2 hN, h1]) (by rw [size_put]; exact h2) (by rw [defers_put]; exact h3)
    have hy := yielded_of (a := a) hj (h1 ▸ hb)
    by_cases hw : b = want
    · subst hw
      have hr := fun w' hb => (hE rfl).run w' hb o rfl rfl
      rw [← h1, ← eval_eq] at hr
      have hwt : Region.wanted o (yielded ops a.tmps) = true := by simp [Region.wanted, hg, hy]
      have hgv : gv b b v = v := by simp [gv]
      rw [hgv] at hn
      cases m with
      | plain =>
        simp only at hn ⊢
        unfold wpList
        rw [if_pos hwt]
        refine .inl ?_
        unfold Oper.wp
        rw [hr w (Bel.refl _ _)]
        simp only [Oper.upon, hd]
        exact hn
      | still =>
        simp only at hn ⊢
        unfold wpStill
        rw [if_pos hwt]
        unfold Oper.still
        rw [hr w (Bel.refl _ _)]
        simp only [Oper.stillUpon, hd]
        exact ⟨trivial, hn⟩
      | quiet =>
        simp only at hn ⊢
        unfold wpQuiet
        rw [if_pos hwt]
        refine ⟨v, fun w' hb => ?_, by rw [hd]; exact hn⟩
        unfold Oper.quietAt
        rw [hr w' hb]
        exact ⟨rfl, rfl⟩
    · have hwt : Region.wanted o (yielded ops a.tmps) = false := by simp [Region.wanted, hg, hy, hw]
      have hgv : gv b want v = undef := by simp [gv, hw]
      rw [hgv] at hn
      cases m with
      | plain => simp only at hn ⊢; unfold wpList; rw [hwt, hd]; exact hn
      | still => simp only at hn ⊢; unfold wpStill; rw [hwt, hd]; exact hn
      | quiet => simp only at hn ⊢; unfold wpQuiet; rw [hwt, hd]; exact hn⟩

/-- the operation is a call of f at these arguments -/
structure EvC (P : Program) (e : Env) (op : Op) (f : FuncId) (args : List Value) : Prop where
  run : ∀ w (o : Oper), o.op = op → (execOp (ev e) o).run P w = .ok (.enter f args.toArray) w
/-- a call in a plain region -/
theorem OPS.call {d : Option Nat} {f : FuncId} {args : List Value} {R : Ending → World → Prop} (hg : o.guard = none) (hd : o.dst = d) (hN : (d.all fun d => Nat.blt d N) = true) (hE : EvC P e o.op f args) (hC : Calls P f args.toArray w R)
    (h : ∀ e' w', R e' w' → ∃ v, e' = .returned v ∧ OPS P N .plain ops K rest (updo e d v) w') : OPS P N .plain ops K (o :: rest) e w :=
  ⟨fun a h1 h2 h3 => by
    simp only
    unfold wpList
    rw [if_pos (wanted_none hg _)]
    refine .inl ?_
    unfold Oper.wp
    have hr := hE.run w o rfl
    rw [← h1, ← eval_eq] at hr
    rw [hr]
    refine hC.mono fun e' w' hR => ?_
    obtain ⟨v, rfl, hn⟩ := h e' w' hR
    have := hn.run (a.put d v) (by rw [envOf_puto d v h2 hN, h1]) (by rw [size_put]; exact h2) (by rw [defers_put]; exact h3)
    rw [hd]
    exact this⟩
/-- a call in a quiet region -/
theorem OPS.callq {d : Nat} {f : FuncId} {args : List Value} {v : Value} (hg : o.guard = none) (hd : o.dst = some d) (hN : Nat.blt d N = true) (hE : EvC P e o.op f args)
    (hC : ∀ w', Bel w.heap.size w w' → Calls P f args.toArray w' fun e' w'' => e' = .returned v ∧ Bel w'.heap.size w' w'')
    (h : OPS P N .quiet ops K rest (upd e d v) w) : OPS P N .quiet ops K (o :: rest) e w :=
  ⟨fun a h1 h2 h3 => by
    have hn := h.run (a.put (some d) v) (by rw [envOf_put v h2 hN, h1]) (by rw [size_put]; exact h2) (by rw [defers_put]; exact h3)
    simp only at hn ⊢
    unfold wpQuiet
    rw [if_pos (wanted_none hg _)]
    refine ⟨v, fun w' hb => ?_, by rw [hd]; exact hn⟩
    unfold Oper.quietAt
    have hr := hE.run w' o rfl
    rw [← h1, ← eval_eq] at hr
    rw [hr]
    exact ⟨rfl, (hC w' hb).mono fun e' w'' ⟨he, hb2⟩ => ⟨he, hb.trans (hb2.mono hb.size)⟩⟩⟩
/-- a guarded call in a quiet region -/
theorem OPS.gcallq {d j dj : Nat} {want b : Bool} {f : FuncId} {args : List Value} {v : Value} (hg : o.guard = some (j, want)) (hj : ops[j]?.bind (·.dst) = some dj) (hb : e dj = .bool b) (hd : o.dst = some d) (hN : Nat.blt d N = true) (hE : EvC P e o.op f args)
    (hC : b = want → ∀ w', Bel w.heap.size w w' → Calls P f args.toArray w' fun e' w'' => e' = .returned v ∧ Bel w'.heap.size w' w'')
    (h : OPS P N .quiet ops K rest (upd e d (gv b want v)) w) : OPS P N .quiet ops K (o :: rest) e w :=
  ⟨fun a h1 h2 h3 => by
    have hn := h.run (a.put (some d) (gv b want v)) (by rw [envOf_put _ h2 hN, h1]) (by rw [size_put]; exact h2) (by rw [defers_put]; exact h3)
    have hy := yielded_of (a := a) hj (h1 ▸ hb)
    simp only at hn ⊢
    unfold wpQuiet
    by_cases hw : b = want
    · subst hw
      have hwt : Region.wanted o (yielded ops a.tmps) = true := by simp [Region.wanted, hg, hy]
      have hgv : gv b b v = v := by simp [gv]
      rw [hgv] at hn
      rw [if_pos hwt]
      refine ⟨v, fun w' hb => ?_, by rw [hd]; exact hn⟩
      unfold Oper.quietAt
      have hr := hE.run w' o rfl
      rw [← h1, ← eval_eq] at hr
      rw [hr]
      exact ⟨rfl, (hC rfl w' hb).mono fun e' w'' ⟨he, hb2⟩ => ⟨he, hb.trans (hb2.mono hb.size)⟩⟩
    · have hwt : Region.wanted o (yielded ops a.tmps) = false := by simp [Region.wanted, hg, hy, hw]
      have hgv : gv b want v = undef := by simp [gv, hw]
      rw [hgv] at hn
      rw [hwt, hd]; exact hn⟩
/-- a guarded operation of a plain region whose guard says no -/
theorem OPS.gno {d : Option Nat} {j dj : Nat} {want b : Bool} (hg : o.guard = some (j, want)) (hj : ops[j]?.bind (·.dst) = some dj) (hb : e dj = .bool b) (hw : (b == want) = false) (hd : o.dst = d) (hN : (d.all fun d => Nat.blt d N) = true)
    (h : OPS P N .plain ops K rest (updo e d undef) w) : OPS P N .plain ops K (o :: rest) e w :=
  ⟨fun a h1 h2 h3 => by
    have hy := yielded_of (a := a) hj (h1 ▸ hb)
    have hwt : Region.wanted o (yielded ops a.tmps) = false := by simpa [Region.wanted, hg, hy] using hw
    simp only
    unfold wpList
    rw [hwt]
    have := h.run (a.put d undef) (by rw [envOf_puto d _ h2 hN, h1]) (by rw [size_put]; exact h2) (by rw [defers_put]; exact h3)
    rw [hd]
    exact this⟩
/-- a guarded operation whose guard says yes: as if it had none -/
theorem OPS.gyes {j dj : Nat} {want b : Bool} (hg : o.guard = some (j, want)) (hj : ops[j]?.bind (·.dst) = some dj) (hb : e dj = .bool b) (hw : (b == want) = true)
    (h : OPS P N .plain ops K ({ o with guard := none } :: rest) e w) : OPS P N .plain ops K (o :: rest) e w :=
  ⟨fun a h1 h2 h3 => by
    have hy := yielded_of (a := a) hj (h1 ▸ hb)
    have hwt : Region.wanted o (yielded ops a.tmps) = true := by simpa [Region.wanted, hg, hy] using hw
    have := h.run a h1 h2 h3
    simp only at this ⊢
    unfold wpList at this ⊢
    rw [if_pos (wanted_none rfl _)] at this
    rw [if_pos hwt]
    exact this⟩
/-- an operation that changes the world, in a plain region -/
theorem OPS.act {d : Nat} {v : Value} {w' : World} (hg : o.guard = none) (hd : o.dst = some d) (hN : Nat.blt d N = true) (hr : (execOp (ev e) o).run P w = .ok (.value v) w')
    (h : OPS P N .plain ops K rest (upd e d v) w') : OPS P N .plain ops K (o :: rest) e w :=
  ⟨fun a h1 h2 h3 => by
    have hn := h.run (a.put (some d) v) (by rw [envOf_put v h2 hN, h1]) (by rw [size_put]; exact h2) (by rw [defers_put]; exact h3)
    rw [← h1, ← eval_eq] at hr
    simp only at hn ⊢
    unfold wpList
    rw [if_pos (wanted_none hg _)]
    refine .inl ?_
    unfold Oper.wp
    rw [hr]
    simp only [Oper.upon, hd]
    exact hn⟩
/-- the same, of an operation that yields nothing -/
theorem OPS.actn {w' : World} (hg : o.guard = none) (hd : o.dst = none) (hr : (execOp (ev e) o).run P w = .ok .skip w')
    (h : OPS P N .plain ops K rest e w') : OPS P N .plain ops K (o :: rest) e w :=
  ⟨fun a h1 h2 h3 => by
    have hn := h.run a h1 h2 h3
    rw [← h1, ← eval_eq] at hr
    simp only at hn ⊢
    unfold wpList
    rw [if_pos (wanted_none hg _)]
    refine .inl ?_
    unfold Oper.wp
    rw [hr]
    simp only [Oper.upon, hd, Act.put]
    exact hn⟩
end
end Go.WD

/-
  What single operations yield.
-/
set_option linter.all false
namespace Go.WD
open Go.RowKit

def cellsAt (w : World) (b : Nat) : Nat → List Value → Prop
  | _, [] => True
  | o, v :: vs => w.cell? ⟨b, o, none⟩ = some v ∧ cellsAt w b (o + 1) vs
theorem cellsAt_below {w w' : World} (hb : Bel w.heap.size w w') {b : Nat} : ∀ {vs : List Value} {o : Nat}, cellsAt w b o vs → cellsAt w' b o vs
  | [], _, _ => trivial
  | _ :: _, _, h => ⟨cell_below hb h.1, cellsAt_below hb h.2⟩
theorem addr_add (b o n : Nat) : (⟨b, o, none⟩ : Addr).add n = ⟨b, o + n, none⟩ := by
  unfold Addr.add; split
  · rename_i h; subst h; rfl
  · rfl
theorem loadCellsFrom_at {P : Program} {w : World} {b o : Nat} : ∀ (vs : List Value) (i : Nat) (acc : Array Value), cellsAt w b (o + i) vs → (loadCellsFrom ⟨b, o, none⟩ i vs.length acc).run P w = .ok (acc ++ vs.toArray) w
  | [], i, acc, _ => by simp [loadCellsFrom, Sem.run_pure]
  | v :: vs, i, acc, h => by
    simp only [List.length_cons, loadCellsFrom, addr_add, Sem.run_bind, run_load, h.1, Result.andThen_ok]
    rw [loadCellsFrom_at vs (i + 1) (acc.push v) h.2]
    simp
theorem loadCells_at {P : Program} {w : World} {b o : Nat} (vs : List Value) (h : cellsAt w b o vs) : (loadCells ⟨b, o, none⟩ vs.length).run P w = .ok vs.toArray w := by
  unfold loadCells
  rw [loadCellsFrom_at vs 0 #[] h]
  simp

theorem l1 {a a' : Value} (h : a = a') : [a] = [a'] := by rw [h]
theorem l2 {a a' b b' : Value} (h : a = a') (h2 : b = b') : [a, b] = [a', b'] := by rw [h, h2]
theorem l3 {a a' b b' c c' : Value} (h : a = a') (h2 : b = b') (h3 : c = c') : [a, b, c] = [a', b', c'] := by rw [h, h2, h3]
theorem l4 {a a' b b' c c' d d' : Value} (h : a = a') (h2 : b = b') (h3 : c = c') (h4 : d = d') : [a, b, c, d] = [a', b', c', d'] := by rw [h, h2, h3, h4]
section
variable {P : Program} {e : Env} {w : World} {ty t : TypeId} {x y c i : Operand}
theorem Ev.move : Ev P e w ty (.move x) (ev e x) := ⟨fun w' _ o ho _ => by unfold execOp; rw [ho]; rfl⟩
theorem Ev.assign : Ev P e w ty (.assign x) (ev e x) := ⟨fun w' _ o ho _ => by unfold execOp; rw [ho]; rfl⟩
theorem gvE {b want : Bool} {v x : Value} (h : b = want) (hx : x = gv b want v) : x = v := by rw [hx, gv, h]; simp
theorem Ev.mvI {k : IntKind} {n : Int} (hx : ev e x = .int k n) : Ev P e w ty (.move x) (.int k n) := hx ▸ Ev.move
theorem Ev.mvB {b : Bool} (hx : ev e x = .bool b) : Ev P e w ty (.move x) (.bool b) := hx ▸ Ev.move
theorem Ev.mvS {A : Option Addr} {n c : Nat} (hx : ev e x = .slice A n c) : Ev P e w ty (.move x) (.slice A n c) := hx ▸ Ev.move
theorem Ev.mvP {A : Option Addr} (hx : ev e x = .pointer A) : Ev P e w ty (.move x) (.pointer A) := hx ▸ Ev.move
theorem Ev.mvA {vs : Array Value} (hx : ev e x = .agg vs) : Ev P e w ty (.move x) (.agg vs) := hx ▸ Ev.move
theorem Ev.mvF {fn : Fn} {a b : Array Value} (hx : ev e x = .func fn a b) : Ev P e w ty (.move x) (.func fn a b) := hx ▸ Ev.move
theorem Ev.mvT {vs : Array Value} (hx : ev e x = .tuple vs) : Ev P e w ty (.move x) (.tuple vs) := hx ▸ Ev.move
theorem Ev.asI {k : IntKind} {n : Int} (hx : ev e x = .int k n) : Ev P e w ty (.assign x) (.int k n) := hx ▸ Ev.assign
theorem Ev.asB {b : Bool} (hx : ev e x = .bool b) : Ev P e w ty (.assign x) (.bool b) := hx ▸ Ev.assign
theorem Ev.asS {A : Option Addr} {n c : Nat} (hx : ev e x = .slice A n c) : Ev P e w ty (.assign x) (.slice A n c) := hx ▸ Ev.assign
theorem Ev.asP {A : Option Addr} (hx : ev e x = .pointer A) : Ev P e w ty (.assign x) (.pointer A) := hx ▸ Ev.assign
theorem Ev.asA {vs : Array Value} (hx : ev e x = .agg vs) : Ev P e w ty (.assign x) (.agg vs) := hx ▸ Ev.assign
theorem Ev.asF {fn : Fn} {a b : Array Value} (hx : ev e x = .func fn a b) : Ev P e w ty (.assign x) (.func fn a b) := hx ▸ Ev.assign
theorem Ev.pick {b : Bool} (hc : ev e c = .bool b) : Ev P e w ty (.pick c x y) (if b = true then ev e x else ev e y) := ⟨fun w' _ o ho _ => by unfold execOp; rw [ho]; simp only [hc, asBool]; rfl⟩
theorem Ev.pickOr {b u : Bool} (hc : ev e c = .bool b) (hx : ev e x = .bool true) (hy : ev e y = gv b false (.bool u)) : Ev P e w ty (.pick c x y) (.bool (b || u)) := by
  have := Ev.pick (P := P) (w := w) (ty := ty) (x := x) (y := y) hc
  cases b <;> simpa [hx, hy, gv] using this
theorem Ev.pickAnd {b u : Bool} (hc : ev e c = .bool b) (hx : ev e x = gv b true (.bool u)) (hy : ev e y = .bool false) : Ev P e w ty (.pick c x y) (.bool (b && u)) := by
  have := Ev.pick (P := P) (w := w) (ty := ty) (x := x) (y := y) hc
  cases b <;> simpa [hx, hy, gv] using this
theorem Ev.load1 {a : Addr} {v : Value} (hA : ∀ w, (isAgg t).run P w = .ok false w) (ha : ev e x = .pointer (some a)) (hc : w.cell? a = some v) : Ev P e w ty (.load t x) v :=
  ⟨fun w' hb o ho _ => by
    unfold execOp; rw [ho]
    simp only [ha, Instr.loadAt, Instr.sureAddr, Sem.run_bind, Sem.run_pure, Result.andThen_ok, loadVar, hA, Bool.false_eq_true, if_false, run_load, cell_below hb hc]⟩
theorem Ev.loadN {b o : Nat} (vs : List Value) (hA : ∀ w, (isAgg t).run P w = .ok true w) (hn : ∀ w, (Go.sizeOf t).run P w = .ok vs.length w) (ha : ev e x = .pointer (some ⟨b, o, none⟩)) (hc : cellsAt w b o vs) :
    Ev P e w ty (.load t x) (.agg vs.toArray) :=
  ⟨fun w' hb o ho _ => by
    unfold execOp; rw [ho]
    simp only [ha, Instr.loadAt, Instr.sureAddr, Sem.run_bind, Sem.run_pure, Result.andThen_ok, loadVar, hA, if_true, hn, loadCells_at vs (cellsAt_below hb hc)]⟩
theorem cellsAt_own {w0 : World} {S : List Nat} {L : List Blk} (H : SH w0 S w L) (i : Nat) {g : Nat} {T : TypeId} {cs : List Value} (hi : L[i]? = some ⟨g, T, cs⟩) : ∀ (vs : List Value) (k : Nat), (∀ j (hj : j < vs.length), cs[k + j]? = some (vs[j]'hj)) → cellsAt w g k vs
  | [], _, _ => trivial
  | v :: vs, k, h => ⟨H.ldL i hi k (h 0 (Nat.zero_lt_succ _)), cellsAt_own H i hi vs (k + 1) fun j hj => by
      have := h (j + 1) (Nat.succ_lt_succ hj)
      rw [show k + 1 + j = k + (j + 1) by omega]
      exact this⟩
/-- a whole struct that fills a block of its own -/
theorem Ev.loadO {w0 : World} {S : List Nat} {L : List Blk} (i : Nat) {g n : Nat} {T : TypeId} {cs : List Value} (H : SH w0 S w L) (hi : L[i]? = some ⟨g, T, cs⟩) (hA : ∀ w, (isAgg t).run P w = .ok true w) (hn : ∀ w, (Go.sizeOf t).run P w = .ok n w) (hl : cs.length = n)
    (ha : ev e x = .pointer (some ⟨g, 0, none⟩)) : Ev P e w ty (.load t x) (.agg cs.toArray) :=
  Ev.loadN cs hA (fun w => by rw [hn, hl]) ha (cellsAt_own H i hi cs 0 fun j hj => by rw [Nat.zero_add]; exact List.getElem?_eq_getElem hj)
theorem Ev.fieldAddr {s k off b o : Nat} (hp : ∀ b o w, (Instr.fieldAt s (.pointer (some ⟨b, o, none⟩)) k).run P w = .ok (.pointer (some ⟨b, o + off, none⟩)) w) (ha : ev e x = .pointer (some ⟨b, o, none⟩)) :
    Ev P e w ty (.fieldAddr s x k) (.pointer (some ⟨b, o + off, none⟩)) :=
  ⟨fun w' _ o ho _ => by unfold execOp; rw [ho]; simp only [ha, Sem.run_bind, Sem.run_pure, Result.andThen_ok, hp]⟩
theorem fieldAt_run {s k off : Nat} {fs : Array Field} {f : Field} {n : Nat} (hU : ∀ w, (underlying s).run P w = .ok (.struct fs) w) (hf : fs[k]? = some f) (hs : ∀ w, (Go.sizeOf f.type).run P w = .ok n w) (hn : (n == 0) = false) (ho : f.offset = off) :
    ∀ b o w, (Instr.fieldAt s (.pointer (some ⟨b, o, none⟩)) k).run P w = .ok (.pointer (some ⟨b, o + off, none⟩)) w := by
  intro b o w
  subst ho
  have hn' : n ≠ 0 := by simpa using hn
  simp only [Instr.fieldAt, Sem.run_bind, hU, Result.andThen_ok, hf, Instr.sureAddr, Sem.run_pure, fieldPlace, hs, if_neg hn', addr_add]
theorem Ev.indexAddr {el sz b o n cap j : Nat} {k : IntKind} {ii : Int} (hU : ∀ w, (underlying t).run P w = .ok (.slice el) w) (hs : ∀ w, (Go.sizeOf el).run P w = .ok sz w)
    (hx : ev e x = .slice (some ⟨b, o, none⟩) n cap) (hi : ev e i = .int k ii) (hj : ii = (j : Int)) (hlt : j < n) : Ev P e w ty (.indexAddr t x i) (.pointer (some ⟨b, o + j * sz, none⟩)) :=
  ⟨fun w' _ o ho _ => by
    unfold execOp; rw [ho]
    subst hj
    have h1 : (0 : Int) ≤ (j : Int) ∧ (j : Int) < (n : Int) := ⟨by omega, by omega⟩
    simp only [hx, hi, Instr.indexAt, asIntOf, Sem.run_bind, Sem.run_pure, Result.andThen_ok, hU, if_pos h1, hs, Int.toNat_natCast, addr_add]⟩
theorem Ev.indexAddr1 {el b o n cap j : Nat} {k : IntKind} {ii : Int} (hU : ∀ w, (underlying t).run P w = .ok (.slice el) w) (hs : ∀ w, (Go.sizeOf el).run P w = .ok 1 w)
    (hx : ev e x = .slice (some ⟨b, o, none⟩) n cap) (hi : ev e i = .int k ii) (hj : ii = (j : Int)) (hlt : j < n) : Ev P e w ty (.indexAddr t x i) (.pointer (some ⟨b, o + j, none⟩)) := by
  have := Ev.indexAddr (P := P) (w := w) (ty := ty) (x := x) (i := i) hU hs hx hi hj hlt
  simpa using this
theorem Ev.indexAddrA {el sz b o n j : Nat} {k : IntKind} {ii : Int} (hU : ∀ w, (underlying t).run P w = .ok (.array n el) w) (hs : ∀ w, (Go.sizeOf el).run P w = .ok sz w)
    (hx : ev e x = .pointer (some ⟨b, o, none⟩)) (hi : ev e i = .int k ii) (hj : ii = (j : Int)) (hlt : j < n) : Ev P e w ty (.indexAddr t x i) (.pointer (some ⟨b, o + j * sz, none⟩)) :=
  ⟨fun w' _ o ho _ => by
    unfold execOp; rw [ho]
    subst hj
    have h1 : (0 : Int) ≤ (j : Int) ∧ (j : Int) < (n : Int) := ⟨by omega, by omega⟩
    simp only [hx, hi, Instr.indexAt, asIntOf, Sem.run_bind, Sem.run_pure, Result.andThen_ok, hU, if_pos h1, hs, Int.toNat_natCast, addr_add, Instr.sureAddr]⟩
theorem Ev.len {el n cap : Nat} {A : Option Addr} (hU : ∀ w, (underlying t).run P w = .ok (.slice el) w) (hx : ev e x = .slice A n cap) :
    Ev P e w ty (.call { callee := .builtin .len, args := #[x], argTypes := #[t] }) (.int .i64 n) :=
  ⟨fun w' _ o ho _ => by
    unfold execOp; rw [ho]
    simp [resolve, invoke, builtin, Builtin.len_, hx, hU, goInt]⟩
theorem Ev.extract {vs : Array Value} {k : Nat} {v : Value} (hx : ev e x = .tuple vs) (hv : vs[k]? = some v) : Ev P e w ty (.extract x k) v :=
  ⟨fun w' _ o ho _ => by unfold execOp; rw [ho]; simp [hx, Instr.extract, hv]⟩
theorem Ev.nilCheckP {a : Addr} (hx : ev e x = .pointer (some a)) : Ev P e w ty (.nilCheck x) (.pointer (some a)) := ⟨fun w' _ o ho _ => by unfold execOp; rw [ho]; simp [hx]⟩
theorem Ev.nilCheckF {f : FuncId} {a b : Array Value} (hx : ev e x = .func (.func f) a b) : Ev P e w ty (.nilCheck x) (.func (.func f) a b) := ⟨fun w' _ o ho _ => by unfold execOp; rw [ho]; simp [hx]⟩
theorem Ev.not {b : Bool} (hx : ev e x = .bool b) : Ev P e w ty (.unOp .not t x) (.bool (!b)) := ⟨fun w' _ o ho _ => by unfold execOp; rw [ho]; simp [hx, Op.unary]⟩
theorem Ev.makeFunc {fn : Fn} {first caps : List Operand} : Ev P e w ty (.makeFunc fn first.toArray caps.toArray) (.func fn (first.map (ev e)).toArray (caps.map (ev e)).toArray) :=
  ⟨fun w' _ o ho _ => by unfold execOp; rw [ho]; simp [Instr.makeFunc]⟩
theorem Ev.build {parts : List (Nat × Operand)} {v : Value} (hb : ∀ w', (Instr.build t (parts.map fun p => (p.1, ev e p.2)).toArray).run P w' = .ok v w') : Ev P e w ty (.build t parts.toArray) v :=
  ⟨fun w' _ o ho _ => by unfold execOp; rw [ho]; simp only [List.map_toArray, Sem.run_bind, hb, Result.andThen_ok, Sem.run_pure]⟩
theorem Ev.bin {op : BinOp} {t' : TypeId} {k : IntKind} {a b : Int} {v : Value} (hx : ev e x = .int k a) (hy : ev e y = .int k b) (hr : ∀ w, (binOp op t (.int k a) (.int k b)).run P w = .ok v w) : Ev P e w ty (.binOp op t x y t') v :=
  ⟨fun w' _ o ho _ => by unfold execOp; rw [ho]; cases op <;> simp only [hx, hy, eqGuard, Sem.run_bind, hr, Sem.run_pure] <;> simp⟩
theorem Ev.lss {t' : TypeId} {k : IntKind} {a b : Int} (hx : ev e x = .int k a) (hy : ev e y = .int k b) : Ev P e w ty (.binOp .lss t x y t') (.bool (decide (a < b))) := Ev.bin hx hy fun w => by simp [binOp, Op.intCmp]
theorem Ev.leq {t' : TypeId} {k : IntKind} {a b : Int} (hx : ev e x = .int k a) (hy : ev e y = .int k b) : Ev P e w ty (.binOp .leq t x y t') (.bool (decide (a ≤ b))) := Ev.bin hx hy fun w => by simp [binOp, Op.intCmp]
theorem Ev.gtr {t' : TypeId} {k : IntKind} {a b : Int} (hx : ev e x = .int k a) (hy : ev e y = .int k b) : Ev P e w ty (.binOp .gtr t x y t') (.bool (decide (b < a))) := Ev.bin hx hy fun w => by simp [binOp, Op.intCmp]
theorem Ev.geq {t' : TypeId} {k : IntKind} {a b : Int} (hx : ev e x = .int k a) (hy : ev e y = .int k b) : Ev P e w ty (.binOp .geq t x y t') (.bool (decide (b ≤ a))) := Ev.bin hx hy fun w => by simp [binOp, Op.intCmp]
theorem Ev.eql {t' : TypeId} {k : IntKind} {a b : Int} (hx : ev e x = .int k a) (hy : ev e y = .int k b) : Ev P e w ty (.binOp .eql t x y t') (.bool (decide (a = b))) := Ev.bin hx hy fun w => by simp [binOp, Op.intCmp]; rfl
theorem Ev.neq {t' : TypeId} {k : IntKind} {a b : Int} (hx : ev e x = .int k a) (hy : ev e y = .int k b) : Ev P e w ty (.binOp .neq t x y t') (.bool (!decide (a = b))) := Ev.bin hx hy fun w => by simp [binOp, Op.intCmp, bne]; rfl
def fits (n : Int) : Prop := -9223372036854775808 ≤ n ∧ n ≤ 9223372036854775807
theorem wrap_fits {n : Int} (h : fits n) : IntKind.i64.wrap n = n := IntWalk.i64_in n ⟨h.1, h.2⟩
theorem Ev.add {t' : TypeId} {a b : Int} (hx : ev e x = .int .i64 a) (hy : ev e y = .int .i64 b) (h : fits (a + b)) : Ev P e w ty (.binOp .add t x y t') (.int .i64 (a + b)) := Ev.bin hx hy fun w => by simp [binOp, Op.intArith, wrap_fits h]
theorem Ev.sub {t' : TypeId} {a b : Int} (hx : ev e x = .int .i64 a) (hy : ev e y = .int .i64 b) (h : fits (a - b)) : Ev P e w ty (.binOp .sub t x y t') (.int .i64 (a - b)) := Ev.bin hx hy fun w => by simp [binOp, Op.intArith, wrap_fits h]
theorem Ev.mul {t' : TypeId} {a b : Int} (hx : ev e x = .int .i64 a) (hy : ev e y = .int .i64 b) (h : fits (a * b)) : Ev P e w ty (.binOp .mul t x y t') (.int .i64 (a * b)) := Ev.bin hx hy fun w => by simp [binOp, Op.intArith, wrap_fits h]
theorem Ev.addw {t' : TypeId} {k : IntKind} {a b : Int} (hx : ev e x = .int k a) (hy : ev e y = .int k b) : Ev P e w ty (.binOp .add t x y t') (.int k (k.wrap (a + b))) := Ev.bin hx hy fun w => by simp [binOp, Op.intArith]
theorem Ev.subw {t' : TypeId} {k : IntKind} {a b : Int} (hx : ev e x = .int k a) (hy : ev e y = .int k b) : Ev P e w ty (.binOp .sub t x y t') (.int k (k.wrap (a - b))) := Ev.bin hx hy fun w => by simp [binOp, Op.intArith]
theorem Ev.mulw {t' : TypeId} {k : IntKind} {a b : Int} (hx : ev e x = .int k a) (hy : ev e y = .int k b) : Ev P e w ty (.binOp .mul t x y t') (.int k (k.wrap (a * b))) := Ev.bin hx hy fun w => by simp [binOp, Op.intArith]
theorem Ev.quo {t' : TypeId} {a b : Int} (hx : ev e x = .int .i64 a) (hy : ev e y = .int .i64 b) (h0 : 0 ≤ a) (h1 : a ≤ 9223372036854775807) (hb : 0 < b) : Ev P e w ty (.binOp .quo t x y t') (.int .i64 (a / b)) :=
  Ev.bin hx hy fun w => by
    have hb0 : b ≠ 0 := by omega
    have e1 : a.tdiv b = a / b := Int.tdiv_eq_ediv_of_nonneg h0
    have e2 : fits (a / b) := ⟨by have := Int.ediv_nonneg h0 (Int.le_of_lt hb); omega, by have := Int.ediv_le_self b h0; omega⟩
    simp [binOp, Op.intDiv, hb0, e1, wrap_fits e2]
theorem Ev.rem {t' : TypeId} {a b : Int} (hx : ev e x = .int .i64 a) (hy : ev e y = .int .i64 b) (h0 : 0 ≤ a) (hb : 0 < b) : Ev P e w ty (.binOp .rem t x y t') (.int .i64 (a % b)) :=
  Ev.bin hx hy fun w => by
    have hb0 : b ≠ 0 := by omega
    have e1 : a.tmod b = a % b := Int.tmod_eq_emod_of_nonneg h0
    simp [binOp, Op.intDiv, hb0, e1]
theorem Ev.neg {a : Int} (hx : ev e x = .int .i64 a) (h : fits (-a)) : Ev P e w ty (.unOp .neg t x) (.int .i64 (-a)) :=
  ⟨fun w' _ o ho _ => by
    unfold execOp; rw [ho]
    simp [hx, Op.unary, Op.intArith, wrap_fits h]⟩
theorem Ev.min {k : IntKind} {a b : Int} {tys : Array TypeId} (hx : ev e x = .int k a) (hy : ev e y = .int k b) : Ev P e w ty (.call { callee := .builtin .min, args := #[x, y], argTypes := tys }) (.int k (if b < a then b else a)) :=
  ⟨fun w' _ o ho _ => by unfold execOp; rw [ho]; simp [resolve, invoke, builtin, Builtin.min_, Builtin.min2, hx, hy]⟩
theorem Ev.max {k : IntKind} {a b : Int} {tys : Array TypeId} (hx : ev e x = .int k a) (hy : ev e y = .int k b) : Ev P e w ty (.call { callee := .builtin .max, args := #[x, y], argTypes := tys }) (.int k (if a < b then b else a)) :=
  ⟨fun w' _ o ho _ => by unfold execOp; rw [ho]; simp [resolve, invoke, builtin, Builtin.max_, Builtin.max2, hx, hy]⟩
theorem Ev.conv {s d : TypeId} {k k' : IntKind} {a : Int} (hs : ∀ w, (underlying s).run P w = .ok (.int k') w) (hd : ∀ w, (underlying d).run P w = .ok (.int k) w) (hx : ev e x = .int k' a) : Ev P e w ty (.convert s d x) (.int k (k.wrap a)) :=
  ⟨fun w' _ o ho _ => by unfold execOp; rw [ho]; simp [hx, convert, hs, hd, Conv.intToInt]⟩
/-- x[:j] -/
theorem Ev.sliceTo {el n cap j : Nat} {A : Option Addr} {k : IntKind} {ii : Int} (hU : ∀ w, (underlying t).run P w = .ok (.slice el) w) (hs : ∃ sz, ∀ w, (Go.sizeOf el).run P w = .ok sz w)
    (hx : ev e x = .slice A n cap) (hi : ev e i = .int k ii) (hj : ii = (j : Int)) (hle : j ≤ cap) : Ev P e w ty (.slice t x none (some i) none) (.slice A j cap) :=
  ⟨fun w' _ o ho _ => by
    unfold execOp; rw [ho]
    obtain ⟨sz, hs⟩ := hs
    subst hj
    have h1 : (0 : Int) ≤ (j : Int) ∧ (j : Int) ≤ (cap : Int) := ⟨by omega, by omega⟩
    have h2 : Option.map (fun x : Addr => x.add 0) A = A := by cases A <;> simp [Addr.add]
    simp only [Instr.sliceAt, Instr.slice, hx, Option.map_some, Option.map_none, hi, hU, Sem.run_bind, Sem.run_pure, Result.andThen_ok, Instr.sliceBounds, Instr.sliceBound, asIntOf, if_pos h1, hs, Int.toNat_natCast]
    simp [h2]⟩
/-- x[j:] -/
theorem Ev.sliceFrom {el n cap j sz : Nat} {A : Option Addr} {k : IntKind} {ii : Int} (hU : ∀ w, (underlying t).run P w = .ok (.slice el) w) (hs : ∀ w, (Go.sizeOf el).run P w = .ok sz w)
    (hx : ev e x = .slice A n cap) (hi : ev e i = .int k ii) (hj : ii = (j : Int)) (hle : j ≤ n) : Ev P e w ty (.slice t x (some i) none none) (.slice (if cap = j then A else A.map (·.add (j * sz))) (n - j) (cap - j)) :=
  ⟨fun w' _ o ho _ => by
    unfold execOp; rw [ho]
    subst hj
    have h1 : (0 : Int) ≤ (j : Int) ∧ (j : Int) ≤ (n : Int) := ⟨by omega, by omega⟩
    simp only [Instr.sliceAt, Instr.slice, hx, Option.map_some, Option.map_none, hi, hU, Sem.run_bind, Sem.run_pure, Result.andThen_ok, Instr.sliceBounds, Instr.sliceBound, asIntOf, if_pos h1, hs, Int.toNat_natCast]⟩

/-! ### calls -/
theorem EvC.func {f : FuncId} {args : List Operand} {tys : Array TypeId} (hc : ∀ (args : Array Value) (w : World), (callFunc f args).run P w = .ok (.enter f args) w) :
    EvC P e (.call { callee := .value (.func f), args := args.toArray, argTypes := tys }) f (args.map (ev e)) :=
  ⟨fun w o ho => by
    unfold execOp; rw [ho]
    simp [resolve, ev, Deferred.ofValue, invoke, hc]⟩
theorem EvC.conv {op : Op} {f : FuncId} {args args' : List Value} (h : EvC P e op f args) (ha : args = args') : EvC P e op f args' := ha ▸ h
theorem EvC.clos {f : FuncId} {g : Operand} {first caps : List Value} {args : List Operand} {tys : Array TypeId} (hg : ev e g = .func (.func f) first.toArray caps.toArray) (hc : ∀ (args : Array Value) (w : World), (callFunc f args).run P w = .ok (.enter f args) w) :
    EvC P e (.call { callee := .value g, args := args.toArray, argTypes := tys }) f (first ++ args.map (ev e) ++ caps) :=
  ⟨fun w o ho => by
    unfold execOp; rw [ho]
    simp [resolve, hg, Deferred.ofValue, invoke, hc]⟩
end

theorem cI {e : Env} {y : Operand} {k : IntKind} {n : Int} (h : ev e y = .int k n) : (ev e y).cells = [Value.int k n].toArray := by rw [h]; rfl
theorem cB {e : Env} {y : Operand} {b : Bool} (h : ev e y = .bool b) : (ev e y).cells = [Value.bool b].toArray := by rw [h]; rfl
theorem cS {e : Env} {y : Operand} {A : Option Addr} {n c : Nat} (h : ev e y = .slice A n c) : (ev e y).cells = [Value.slice A n c].toArray := by rw [h]; rfl
theorem cP {e : Env} {y : Operand} {A : Option Addr} (h : ev e y = .pointer A) : (ev e y).cells = [Value.pointer A].toArray := by rw [h]; rfl
theorem cF {e : Env} {y : Operand} {fn : Fn} {a b : Array Value} (h : ev e y = .func fn a b) : (ev e y).cells = [Value.func fn a b].toArray := by rw [h]; rfl
theorem cA {e : Env} {y : Operand} {vs : List Value} (h : ev e y = .agg vs.toArray) : (ev e y).cells = vs.toArray := by rw [h]; rfl

/-! ### operations that change the world -/
section
variable {P : Program} {N : Nat} {ops : Array Oper} {K : Env → World → Prop} {e : Env} {w w0 : World} {S : List Nat} {L : List Blk} {rest : List Oper} {o : Oper} {t : TypeId} {x y : Operand}
theorem OPS.know {m : Md} {t : Nat} {v : Value} {l : List Oper} (h : e t = v) (hw : OPS P N m ops K l (upd e t v) w) : OPS P N m ops K l e w := by rw [upd_same h] at hw; exact hw
theorem OPS.box {d : Nat} {cs : List Value} (hg : o.guard = none) (hd : o.dst = some d) (hN : Nat.blt d N = true) (hop : o.op = .box t x) (hx : (ev e x).cells = cs.toArray) (H : SH w0 S w L)
    (h : ∀ g w', SH w0 S w' (⟨g, t, cs⟩ :: L) → OPS P N .plain ops K rest (upd e d (.pointer (some ⟨g, 0, none⟩))) w') : OPS P N .plain ops K (o :: rest) e w :=
  OPS.act (v := .pointer (some ⟨w.heap.size, 0, none⟩)) (w' := w.alloc (.cells cs.toArray t)) hg hd hN (by unfold execOp; rw [hop]; simp [Instr.box, newVar, newRow, newObj, Sem.run, hx]) (h _ _ (H.alloc t cs))
theorem OPS.alloc {d : Nat} {z : Value} {cs : List Value} (hg : o.guard = none) (hd : o.dst = some d) (hN : Nat.blt d N = true) (hop : o.op = .alloc t) (hz : ∀ w, (zeroValue t).run P w = .ok z w) (hx : z.cells = cs.toArray) (H : SH w0 S w L)
    (h : ∀ g w', SH w0 S w' (⟨g, t, cs⟩ :: L) → OPS P N .plain ops K rest (upd e d (.pointer (some ⟨g, 0, none⟩))) w') : OPS P N .plain ops K (o :: rest) e w :=
  OPS.act (v := .pointer (some ⟨w.heap.size, 0, none⟩)) (w' := w.alloc (.cells cs.toArray t)) hg hd hN (by unfold execOp; rw [hop]; simp [Instr.alloc, hz, newVar, newRow, newObj, Sem.run, hx]) (h _ _ (H.alloc t cs))
def putL : List Value → Nat → List Value → List Value
  | cs, _, [] => cs
  | cs, k, v :: vs => putL (cs.set k v) (k + 1) vs
theorem putL_length : ∀ (vs cs : List Value) (k : Nat), (putL cs k vs).length = cs.length
  | [], _, _ => rfl
  | v :: vs, cs, k => by rw [putL, putL_length vs]; simp
theorem store_run {i : Nat} : ∀ (vs : List Value) (w : World) (L : List Blk) (b : Blk) (k j : Nat), SH w0 S w L → L[i]? = some b → k + j + vs.length ≤ b.cs.length → (vs.all (·.oneCell')) = true →
    ∃ w', (storeCells ⟨b.g, k, none⟩ vs j).run P w = .ok () w' ∧ SH w0 S w' (L.set i ⟨b.g, b.T, putL b.cs (k + j) vs⟩)
  | [], w, L, b, k, j, H, hi, _, _ => ⟨w, by simp [storeCells, Sem.run_pure], by
      have hlen : i < L.length := (List.getElem?_eq_some_iff.1 hi).1
      have hgi : L[i] = b := (List.getElem?_eq_some_iff.1 hi).2
      have : L.set i ⟨b.g, b.T, putL b.cs (k + j) []⟩ = L := by
        rw [show (⟨b.g, b.T, putL b.cs (k + j) []⟩ : Blk) = L[i] from by rw [hgi]; rfl, List.set_getElem_self]
      rw [this]; exact H⟩
  | v :: vs, w, L, b, k, j, H, hi, hk, h1 => by
    simp only [List.all_cons, Bool.and_eq_true] at h1
    simp only [List.length_cons] at hk
    have hlen : i < L.length := (List.getElem?_eq_some_iff.1 hi).1
    have hb : b ∈ L := List.mem_of_getElem? hi
    have H' := H.set i hi (k + j) v
    have hi' : (L.set i ⟨b.g, b.T, b.cs.set (k + j) v⟩)[i]? = some ⟨b.g, b.T, b.cs.set (k + j) v⟩ := by simp [hlen]
    obtain ⟨w', hr, H2⟩ := store_run vs _ _ ⟨b.g, b.T, b.cs.set (k + j) v⟩ k (j + 1) H' hi' (by simp; omega) h1.2
    refine ⟨w', ?_, ?_⟩
    · have hc : w.cell? ⟨b.g, k + j, none⟩ = some (b.cs[k + j]'(by omega)) := H.ldL i hi _ (List.getElem?_eq_getElem (by omega))
      have hf := H.notFrozen hb (k + j)
      simp only [storeCells, addr_add, Sem.run_bind]
      rw [run_store P w _ v .plain h1.1]
      simp only [hc, hf]
      simpa using hr
    · rw [List.set_set] at H2
      exact H2
/-- a store of one cell or more into a known block -/
theorem OPS.store {vs : List Value} {n : Nat} {b : Blk} (i k : Nat) (hg : o.guard = none) (hd : o.dst = none) (hop : o.op = .store t x y) (hs : ∀ w, (Go.sizeOf t).run P w = .ok n w) (hx : ev e x = .pointer (some ⟨b.g, k, none⟩))
    (hv : (ev e y).cells = vs.toArray) (hn : vs.length = n) (h1 : (vs.all (·.oneCell')) = true) (H : SH w0 S w L) (hi : L[i]? = some b) (hk : k + n ≤ b.cs.length)
    (h : ∀ w', SH w0 S w' (L.set i ⟨b.g, b.T, putL b.cs k vs⟩) → OPS P N .plain ops K rest e w') : OPS P N .plain ops K (o :: rest) e w := by
  obtain ⟨w', hr, H'⟩ := store_run (P := P) vs w L b k 0 H hi (by omega) h1
  refine OPS.actn (w' := w') hg hd ?_ (h w' H')
  unfold execOp; rw [hop]
  simp only [hx, Instr.storeAt, Instr.sureAddr, Sem.run_bind, Sem.run_pure, Result.andThen_ok, storeVar, hv, hs, List.size_toArray, hn, ne_eq, not_true_eq_false, if_false]
  simp [hr]
end
end Go.WD

/-
  Rules for slices that the call makes itself, for results that lie in memory, for guarded calls.
-/
set_option linter.all false
namespace Go.WD
open Go.RowKit

/-! ### results that may lie in memory -/
def resVal (P : Program) (e : Env) (w : World) : ResultVar → Value → Prop
  | .tmp t, v => e t = v
  | .cell a t, v => ∃ ad, e a = .pointer (some ad) ∧ (loadVar t ad).run P w = .ok v w
def ResL (P : Program) (e : Env) (w : World) : List ResultVar → List Value → Prop
  | [], [] => True
  | r :: rs, v :: vs => resVal P e w r v ∧ ResL P e w rs vs
  | _, _ => False
def tup : List Value → Value
  | [v] => v
  | vs => .tuple vs.toArray
section
variable {P : Program} {N : Nat} {e : Env} {w w0 : World} {S : List Nat} {L : List Blk}
theorem results_mapM (tmps : Array Value) : ∀ (l : List ResultVar) (vs : List Value), ResL P (fun t => tmps.getD t undef) w l vs →
    (l.mapM (m := Sem) fun | .tmp t => pure (tmps.getD t undef) | .cell a t => do loadVar t (← asAddr (tmps.getD a undef))).run P w = .ok vs w
  | [], [], _ => by simp
  | r :: rs, v :: vs, h => by
    obtain ⟨h1, h2⟩ := h
    have ih := results_mapM tmps rs vs h2
    rw [List.mapM_cons]
    cases r with
    | tmp t =>
      have h1 : tmps.getD t undef = v := h1
      simp only [Sem.run_bind, Sem.run_pure, Result.andThen_ok, ih, h1]
    | cell a t =>
      obtain ⟨ad, h3, h4⟩ := h1
      have h3 : tmps.getD a undef = .pointer (some ad) := h3
      have hA : (asAddr (tmps.getD a undef)).run P w = .ok ad w := by rw [h3]; rfl
      simp only [Sem.run_bind, hA, Sem.run_pure, Result.andThen_ok, h4, ih]
  | [], _ :: _, h => h.elim
  | _ :: _, [], h => h.elim
theorem results_ofL {fn : Func} {l : List ResultVar} (hl : fn.results = l.toArray) {tmps : Array Value} {vs : List Value} (h : ResL P (fun t => tmps.getD t undef) w l vs) :
    (results fn tmps).run P w = .ok (tup vs) w := by
  unfold results
  rw [hl, List.mapM_toArray]
  have := results_mapM tmps l vs h
  simp only [map_eq_pure_bind, bind_assoc, pure_bind, Sem.run_bind] at this ⊢
  refine (congrArg (fun r => Result.andThen r _) this).trans ?_
  simp only [Result.andThen_ok]
  match vs with
  | [] => simp [tup]
  | [v] => simp [tup]
  | v :: u :: vs => simp [tup]
theorem Calls.ofWPc {f : FuncId} {fn : Func} {c : Code} {args : List Value} {l : List ResultVar} {R : Ending → World → Prop}
    (hf : P.funcs[f]? = some fn) (hb : fn.body = some c) (hl : fn.results = l.toArray) (hN : fn.ntmps = N) (hle : Nat.ble args.length N = true)
    (h : WP P N c (fun e w => ∃ vs, ResL P e w l vs ∧ R (.returned (tup vs)) w) NoX (fun e w => ∃ vs, ResL P e w l vs ∧ R (.returned (tup vs)) w) (envAt args) w) :
    Calls P f args.toArray w R := by
  have hle' : args.length ≤ N := by simpa using hle
  refine calls_of_wp hf hb (Code.wp_mono (fun ex a w hp => ?_) (h.run _ ?_ ?_ rfl))
  · cases ex <;> simp only [post, NoX] at hp <;> simp only [bodyPost]
    · obtain ⟨_, h2, v, h3, h4⟩ := hp
      exact ⟨h2, _, results_ofL hl h3, h4⟩
    · exact hp.2.2
    · obtain ⟨_, h2, v, h3, h4⟩ := hp
      exact ⟨h2, _, results_ofL hl h3, h4⟩
  · funext j
    simp only [envOf, envAt]
    by_cases hj : j < args.length
    · simp [hj, Array.getElem?_append]
    · simp [hj, Array.getElem?_append, Array.getElem?_replicate]
      split <;> rfl
  · simp [hN]; omega
/-- a result variable that fills a block of its own -/
theorem resCellA {t a n : Nat} (i : Nat) {g : Nat} {T : TypeId} {cs : List Value} (H : SH w0 S w L) (hi : L[i]? = some ⟨g, T, cs⟩) (hA : ∀ w, (isAgg t).run P w = .ok true w) (hn : ∀ w, (Go.sizeOf t).run P w = .ok n w) (hl : cs.length = n)
    (ha : e a = .pointer (some ⟨g, 0, none⟩)) : resVal P e w (.cell a t) (.agg cs.toArray) :=
  ⟨_, ha, by
    have hc := cellsAt_own H i hi cs 0 fun j hj => by rw [Nat.zero_add]; exact List.getElem?_eq_getElem hj
    simp only [loadVar, Sem.run_bind, hA, Result.andThen_ok, if_true, hn, ← hl, loadCells_at cs hc, Sem.run_pure]⟩
theorem resCell1 {t a : Nat} (i : Nat) {g : Nat} {T : TypeId} {v : Value} (H : SH w0 S w L) (hi : L[i]? = some ⟨g, T, [v]⟩) (hA : ∀ w, (isAgg t).run P w = .ok false w)
    (ha : e a = .pointer (some ⟨g, 0, none⟩)) : resVal P e w (.cell a t) v :=
  ⟨_, ha, by
    have hc := H.ldL i hi 0 (v := v) rfl
    simp only [loadVar, Sem.run_bind, hA, Result.andThen_ok, Bool.false_eq_true, if_false, run_load, hc]⟩
end

section
variable {P : Program} {N : Nat} {ops : Array Oper} {K : Env → World → Prop} {e : Env} {w w0 : World} {S : List Nat} {L : List Blk} {rest : List Oper} {o : Oper} {t : TypeId} {x y : Operand}
/-- a guarded call in a plain region -/
theorem OPS.gcall {d j dj : Nat} {want b : Bool} {f : FuncId} {args : List Value} {v : Value} (hg : o.guard = some (j, want)) (hj : ops[j]?.bind (·.dst) = some dj) (hb : e dj = .bool b) (hd : o.dst = some d) (hN : Nat.blt d N = true)
    (hE : b = want → EvC P e o.op f args) (hC : b = want → Calls P f args.toArray w fun e' w' => e' = .returned v ∧ Bel w.heap.size w w')
    (h : ∀ w', Bel w.heap.size w w' → OPS P N .plain ops K rest (upd e d (gv b want v)) w') : OPS P N .plain ops K (o :: rest) e w :=
  ⟨fun a h1 h2 h3 => by
    have hn := fun w' hb => (h w' hb).run (a.put (some d) (gv b want v)) (by rw [envOf_put _ h2 hN, h1]) (by rw [size_put]; exact h2) (by rw [defers_put]; exact h3)
    have hy := yielded_of (a := a) hj (h1 ▸ hb)
    simp only at hn ⊢
    unfold wpList
    by_cases hw : b = want
    · subst hw
      have hwt : Region.wanted o (yielded ops a.tmps) = true := by simp [Region.wanted, hg, hy]
      have hgv : gv b b v = v := by simp [gv]
      rw [hgv] at hn
      rw [if_pos hwt]
      refine .inl ?_
      unfold Oper.wp
      have hr := (hE rfl).run w o rfl
      rw [← h1, ← eval_eq] at hr
      rw [hr]
      refine (hC rfl).mono fun e' w' ⟨he, hb2⟩ => ?_
      subst he
      rw [hd]
      exact hn w' hb2
    · have hwt : Region.wanted o (yielded ops a.tmps) = false := by simp [Region.wanted, hg, hy, hw]
      have hgv : gv b want v = undef := by simp [gv, hw]
      rw [hgv] at hn
      rw [hwt, hd]; exact hn w (Bel.refl _ _)⟩

/-- the same, where the contract does not lean on the guard (the contract first, so that it fixes the arguments) -/
theorem OPS.gcall0 {d j dj : Nat} {want b : Bool} {f : FuncId} {args : List Value} {v : Value} {R : Ending → World → Prop} (hC : Calls P f args.toArray w R) (hR : ∀ e' w', R e' w' → e' = .returned v ∧ Bel w.heap.size w w')
    (hg : o.guard = some (j, want)) (hj : ops[j]?.bind (·.dst) = some dj) (hb : e dj = .bool b) (hd : o.dst = some d) (hN : Nat.blt d N = true)
    (hE : b = want → EvC P e o.op f args) 
    (h : ∀ w', Bel w.heap.size w w' → OPS P N .plain ops K rest (upd e d (gv b want v)) w') : OPS P N .plain ops K (o :: rest) e w :=
  OPS.gcall hg hj hb hd hN hE (fun _ => hC.mono hR) h

/-! ### slices of the call's own -/
structure SlFact (P : Program) (t el sz bt : Nat) (zs : List Value) : Prop where
  und : P.underlying t = some (.slice el)
  info : ∃ i z, P.info? el = some i ∧ i.zero = some z ∧ i.size = sz ∧ i.bytes = bt ∧ z.cells = zs.toArray
  len : zs.length = sz
  pos : 0 < sz
theorem SlFact.undRun {el sz bt : Nat} {zs : List Value} (h : SlFact P t el sz bt zs) (w : World) : (underlying t).run P w = .ok (.slice el) w := run_underlying h.und w
theorem SlFact.mk' {el sz bt : Nat} {z : Value} {zs : List Value} (hu : P.underlying t = some (.slice el)) (hi : (P.info? el).map (fun i => (i.zero, i.size, i.bytes)) = some (some z, sz, bt)) (hz : z.cells = zs.toArray) (hl : zs.length = sz) (hp : 0 < sz) : SlFact P t el sz bt zs := by
  obtain ⟨i, h1, h2, h3, h4⟩ := info_parts hi
  exact ⟨hu, ⟨i, z, h1, h2, h3, h4, hz⟩, hl, hp⟩
def mkL (n : Nat) (zs : List Value) : List Value := (List.replicate n zs).flatten
theorem mkL_length (n : Nat) (zs : List Value) : (mkL n zs).length = n * zs.length := by simp [mkL]
theorem mkL_one (n : Nat) (z : Value) : mkL n [z] = List.replicate n z := by
  induction n with
  | zero => rfl
  | succ n ih => simp [mkL, List.replicate_succ] at ih ⊢
theorem mkL_get (zs : List Value) : ∀ (n i : Nat), i < n * zs.length → (mkL n zs)[i]? = zs[i % zs.length]?
  | 0, i, h => by simp at h
  | n + 1, i, h => by
    have e : mkL (n + 1) zs = zs ++ mkL n zs := by simp [mkL, List.replicate_succ]
    rw [e]
    by_cases hi : i < zs.length
    · rw [List.getElem?_append_left hi, Nat.mod_eq_of_lt hi]
    · have hi' : zs.length ≤ i := by omega
      rw [List.getElem?_append_right hi', mkL_get zs n (i - zs.length) (by rw [Nat.succ_mul] at h; omega), Nat.mod_eq_sub_mod hi']
theorem mkCells {zs : List Value} (n : Nat) (h : 0 < zs.length) : ((Array.range (n * zs.length)).map fun i => zs.toArray[i % zs.toArray.size]!) = (mkL n zs).toArray := by
  apply Array.ext_getElem?
  intro i
  simp only [List.getElem?_toArray, List.size_toArray]
  by_cases hi : i < n * zs.length
  · rw [mkL_get zs n i hi]
    have hm := Nat.mod_lt i h
    simp [hi, hm]
  · rw [Array.getElem?_eq_none (by simp; omega), List.getElem?_eq_none (by rw [mkL_length]; omega)]
theorem run_makeSlice_own {el sz bt : Nat} {zs : List Value} (hf : SlFact P t el sz bt zs) (m : Nat) (k k' : IntKind) (hb : bt * m ≤ 140737488355328) (hm : m ≤ 9223372036854775807) (w : World) :
    (Instr.makeSlice t (.int k (m : Int)) (.int k' (m : Int))).run P w = .ok (.slice (some ⟨w.heap.size, 0, none⟩) m m) (w.alloc (.cells (mkL m zs).toArray el)) := by
  obtain ⟨i, z, h1, h2, h3, h4, h5⟩ := hf.info
  have hw : IntKind.i64.wrap (m : Int) = m := IntWalk.i64_in _ ⟨by omega, by omega⟩
  have ht : (typeInfo el).run P w = .ok i w := by unfold typeInfo program; simp only [Sem.run_bind, Sem.run, Result.andThen_ok, h1, Sem.run_pure]
  have hs : (Go.sizeOf el).run P w = .ok sz w := by unfold Go.sizeOf; simp only [Sem.run_bind, ht, Result.andThen_ok, h3, Sem.run_pure]
  have hz : (zeroValue el).run P w = .ok z w := by unfold zeroValue; simp only [Sem.run_bind, ht, Result.andThen_ok, h2, Sem.run_pure]
  have c1 : ((bt : Int) * (m : Int) > 2 ^ 48) = False := by
    have : ((bt * m : Nat) : Int) ≤ 140737488355328 := Int.ofNat_le.2 hb
    rw [Int.natCast_mul] at this
    refine eq_false fun h => ?_
    have h : (2:Int) ^ 48 < (bt : Int) * (m : Int) := h
    have : (2:Int) ^ 48 = 281474976710656 := by decide
    omega
  have c2 : ((m : Int) < 0) = False := by simp
  have e1 : (Array.map (fun i => (z.cells)[i % z.cells.size]!) (Array.range (m * sz))) = (mkL m zs).toArray := by
    rw [h5, ← hf.len]; exact mkCells m (by rw [hf.len]; exact hf.pos)
  simp only [Instr.makeSlice, Sem.run_bind, run_underlying hf.und, Result.andThen_ok, asInt, asIntOf, Sem.run_pure, ht, h4, hw, c1, c2]
  simp only [decide_false, Bool.or_false, Int.lt_irrefl, gt_iff_lt, Bool.false_eq_true, if_false, askRoom]
  split <;> simp only [mark, Sem.run_pure, Sem.run, Result.andThen_ok, hs, Int.toNat_natCast, Sem.run_bind]
  all_goals
    by_cases hn : m * sz = 0
    · have hm0 : m = 0 := by
        rcases Nat.mul_eq_zero.1 hn with h | h
        · exact h
        · have := hf.pos; omega
      subst hm0
      simp [newRow, newObj, Sem.run, mkL]
      congr 2
      apply Array.ext_getElem?; intro i; simp
    · simp [hn, hz, newRow, newObj, Sem.run, e1]
theorem OPS.makeSlice {d el sz bt m : Nat} {n : Int} {k k' : IntKind} {zs : List Value} (hg : o.guard = none) (hd : o.dst = some d) (hN : Nat.blt d N = true) (hop : o.op = .makeSlice t x y) (hf : SlFact P t el sz bt zs)
    (hx : ev e x = .int k n) (hy : ev e y = .int k' n) (hn : n = (m : Int)) (hb : bt * m ≤ 140737488355328) (hm : m ≤ 9223372036854775807) (H : SH w0 S w L)
    (h : ∀ g w', SH w0 S w' (⟨g, el, mkL m zs⟩ :: L) → OPS P N .plain ops K rest (upd e d (.slice (some ⟨g, 0, none⟩) m m)) w') : OPS P N .plain ops K (o :: rest) e w := by
  subst hn
  refine OPS.act (v := .slice (some ⟨w.heap.size, 0, none⟩) m m) (w' := w.alloc (.cells (mkL m zs).toArray el)) hg hd hN ?_ (h _ _ (H.alloc _ _))
  unfold execOp; rw [hop]
  simp only [hx, hy, Sem.run_bind, run_makeSlice_own hf m k k' hb hm w, Result.andThen_ok, Sem.run_pure]
/-- a literal slice -/
theorem OPS.buildSlice {d el n : Nat} {cs : List Value} {parts : List (Nat × Operand)} (hg : o.guard = none) (hd : o.dst = some d) (hN : Nat.blt d N = true) (hop : o.op = .buildSlice t n parts.toArray)
    (hr : ∀ w, (Instr.buildSlice t n (parts.map fun p => (p.1, ev e p.2)).toArray).run P w = .ok (.slice (some ⟨w.heap.size, 0, none⟩) n n) (w.alloc (.cells cs.toArray el))) (H : SH w0 S w L)
    (h : ∀ g w', SH w0 S w' (⟨g, el, cs⟩ :: L) → OPS P N .plain ops K rest (upd e d (.slice (some ⟨g, 0, none⟩) n n)) w') : OPS P N .plain ops K (o :: rest) e w := by
  refine OPS.act (v := .slice (some ⟨w.heap.size, 0, none⟩) n n) (w' := w.alloc (.cells cs.toArray el)) hg hd hN ?_ (h _ _ (H.alloc _ _))
  unfold execOp; rw [hop]
  simp only [List.map_toArray, Sem.run_bind, hr, Result.andThen_ok, Sem.run_pure]
theorem src_own (H : SH w0 S w L) (i : Nat) {g : Nat} {T : TypeId} {cs : List Value} (hi : L[i]? = some ⟨g, T, cs⟩) : ∃ b o, some (⟨g, 0, none⟩ : Addr) = some ⟨b, o, none⟩ ∧ cellsAt w b o cs :=
  ⟨g, 0, rfl, cellsAt_own H i hi cs 0 fun j hj => by rw [Nat.zero_add]; exact List.getElem?_eq_getElem hj⟩
/-- a growing slice of the call's own: nothing yet (Lo = []), or one block -/
structure OwnS (A : Option Addr) (cap n : Nat) (xs : List Value) (el sz : Nat) (Lo : List Blk) : Prop where
  len : xs.length = n * sz
  form : (A = none ∧ n = 0 ∧ cap = 0 ∧ Lo = []) ∨ ∃ g sp, A = some ⟨g, 0, none⟩ ∧ Lo = [⟨g, el, xs ++ sp⟩] ∧ n ≤ cap ∧ cap ≤ maxLen ∧ (xs ++ sp).length = cap * sz
theorem OwnS.nil {el sz : Nat} : OwnS none 0 0 [] el sz [] := ⟨by simp, .inl ⟨rfl, rfl, rfl, rfl⟩⟩
theorem OwnS.toOwns {A : Option Addr} {cap n el sz : Nat} {xs : List Value} {Lo R : List Blk} (h : OwnS A cap n xs el sz Lo) (H : SH w0 S w (R ++ Lo)) : w.ownsRow 0 el sz (.slice A n cap) n xs := by
  refine ⟨h.len, ?_⟩
  rcases h.form with ⟨rfl, rfl, rfl, _⟩ | ⟨g, sp, rfl, rfl, h1, h2, h3⟩
  · exact .inl ⟨rfl, rfl⟩
  · have := H.own ⟨g, el, xs ++ sp⟩ (by simp)
    exact .inr ⟨g, cap, _, rfl, Nat.zero_le _, this, h1, h2, by simpa using h3, by simp [← h.len]⟩
theorem SH.perm {L' : List Blk} (H : SH w0 S w L) (hp : L.Perm L') : SH w0 S w L' :=
  ⟨H.os, H.tape, H.output, H.size, H.low, fun b hb => H.own b (hp.mem_iff.2 hb), fun b hb => H.may b (hp.mem_iff.2 hb), (hp.map _).nodup_iff.1 H.nodup, H.drawn⟩
end
end Go.WD
