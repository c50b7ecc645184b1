/-
  A small logic for walking loaded Go functions: the frame is a function from slots to values, the code is walked by rules, and the world is a variable
  about which one hypothesis 'SH w0 S w L' says all that is known: blocks of the list L hold just what the list says, and everything else that was there in w0 (but for the blocks S) is unchanged.
-/
import Derived.WalkKit
import Derived.Still
import Derived.StillTail
import Derived.Deep.Quiet
import Derived.Deep.LoopGhost
import Derived.KernelRfl
import Derived.Maps.AppendAt
import Derived.Test.YtchjbjplddhknaaProg
set_option linter.all false
namespace Go.W
open Go.RowKit

abbrev Env := Nat → Value
def envOf (a : Act) : Env := fun t => a.tmps.getD t undef
def ev (e : Env) : Operand → Value
  | .tmp t => e t
  | .const v => v
  | .global g => .pointer (some ⟨g, 0, none⟩)
  | .func f => .func (.func f) #[] #[]
def upd (e : Env) (d : Nat) (v : Value) : Env := fun j => bif Nat.beq j d then v else e j

theorem eval_eq (a : Act) : a.eval = ev (envOf a) := by funext x; cases x <;> rfl
theorem envOf_put {a : Act} {d N : Nat} (v : Value) (hs : a.tmps.size = N) (hd : Nat.blt d N = true) : envOf (a.put (some d) v) = upd (envOf a) d v := by
  have hd' : d < a.tmps.size := by simp [Nat.blt] at hd; omega
  funext j
  simp only [envOf, Act.put, upd]
  by_cases h : j = d
  · subst h; simp [hd']
  · have hb : Nat.beq j d = false := by
      cases hx : Nat.beq j d with
      | false => rfl
      | true => exact absurd (Nat.eq_of_beq_eq_true hx) h
    rw [hb]; simp [Ne.symm h]
theorem size_put (a : Act) (d : Option Tmp) (v : Value) : (a.put d v).tmps.size = a.tmps.size := by cases d <;> simp [Act.put]
theorem defers_put (a : Act) (d : Option Tmp) (v : Value) : (a.put d v).defers = a.defers := by cases d <;> rfl

/-! ### codes -/
def post (N : Nat) (Kn : Env → World → Prop) (Kx : Nat → Env → World → Prop) (Kr : Env → World → Prop) : Exit → Act → World → Prop
  | .normal, a, w => a.tmps.size = N ∧ a.defers = [] ∧ Kn (envOf a) w
  | .exit id, a, w => a.tmps.size = N ∧ a.defers = [] ∧ Kx id (envOf a) w
  | .ret, a, w => a.tmps.size = N ∧ a.defers = [] ∧ Kr (envOf a) w
  | _, _, _ => False
structure WP (P : Program) (N : Nat) (c : Code) (Kn : Env → World → Prop) (Kx : Nat → Env → World → Prop) (Kr : Env → World → Prop) (e : Env) (w : World) : Prop where
  run : ∀ a : Act, envOf a = e → a.tmps.size = N → a.defers = [] → c.wp P (post N Kn Kx Kr) a w
def NoX : Nat → Env → World → Prop := fun _ _ _ => False
def NoR : Env → World → Prop := fun _ _ => False
structure XB (id : Nat) (Kn : Env → World → Prop) (Kx : Nat → Env → World → Prop) (j : Nat) (e : Env) (w : World) : Prop where
  out : if j = id then Kn e w else Kx j e w

section
variable {P : Program} {N : Nat} {Kn : Env → World → Prop} {Kx : Nat → Env → World → Prop} {Kr : Env → World → Prop} {e : Env} {w : World}
theorem XB.hit {id : Nat} (h : Kn e w) : XB id Kn Kx id e w := ⟨by simpa using h⟩
theorem XB.miss {id j : Nat} (hj : Nat.beq j id = false) (h : Kx j e w) : XB id Kn Kx j e w := ⟨by rw [if_neg (fun he => by subst he; rw [Nat.beq_refl] at hj; cases hj)]; exact h⟩
theorem post_then (N : Nat) (y : Code) : ∀ ex a w, post N (fun e w => WP P N y Kn Kx Kr e w) Kx Kr ex a w → Exit.then (y.wp P (post N Kn Kx Kr)) (post N Kn Kx Kr) ex a w := by
  intro ex a w h
  cases ex <;> simp only [post, Exit.then] at h ⊢ <;> try exact h
  exact h.2.2.run _ rfl h.1 h.2.1
theorem WP.seq {x y : Code} (h : WP P N x (fun e w => WP P N y Kn Kx Kr e w) Kx Kr e w) : WP P N (.seq x y) Kn Kx Kr e w :=
  ⟨fun a h1 h2 h3 => wp_seq (Code.wp_mono (post_then N y) (h.run a h1 h2 h3))⟩
theorem WP.skip (h : Kn e w) : WP P N .skip Kn Kx Kr e w := ⟨fun _ h1 h2 h3 => wp_skip ⟨h2, h3, h1 ▸ h⟩⟩
theorem WP.label {l : Nat} (h : Kn e w) : WP P N (.label l) Kn Kx Kr e w := ⟨fun _ h1 h2 h3 => wp_label ⟨h2, h3, h1 ▸ h⟩⟩
theorem WP.exit {id : Nat} (h : Kx id e w) : WP P N (.exit id) Kn Kx Kr e w := ⟨fun _ h1 h2 h3 => wp_exit ⟨h2, h3, h1 ▸ h⟩⟩
theorem WP.ret (h : Kr e w) : WP P N .ret Kn Kx Kr e w := ⟨fun _ h1 h2 h3 => wp_ret ⟨h2, h3, h1 ▸ h⟩⟩
theorem WP.block {id : Nat} {c : Code} (h : WP P N c Kn (XB id Kn Kx) Kr e w) : WP P N (.block id c) Kn Kx Kr e w :=
  ⟨fun a h1 h2 h3 => wp_block (Code.wp_mono (fun ex a w h => by
    cases ex <;> simp only [post, Exit.inBlock] at h ⊢ <;> try exact h
    rename_i j
    by_cases hj : j = id
    · have := h.2.2.out; simp only [hj, if_true] at this ⊢; exact ⟨h.1, h.2.1, this⟩
    · have := h.2.2.out; simp only [hj, if_false] at this ⊢; exact ⟨h.1, h.2.1, this⟩) (h.run a h1 h2 h3))⟩
theorem WP.cond {c : Operand} {x y : Code} {b : Bool} (hc : ev e c = .bool b) (ht : b = true → WP P N x Kn Kx Kr e w) (hf : b = false → WP P N y Kn Kx Kr e w) : WP P N (.cond c x y) Kn Kx Kr e w :=
  ⟨fun a h1 h2 h3 => wp_cond_split (t := b) (by rw [eval_eq, h1]; exact hc) (fun h => (ht h).run a h1 h2 h3) (fun h => (hf h).run a h1 h2 h3)⟩
theorem WP.cond_t {c : Operand} {x y : Code} (hc : ev e c = .bool true) (ht : WP P N x Kn Kx Kr e w) : WP P N (.cond c x y) Kn Kx Kr e w := WP.cond hc (fun _ => ht) (fun h => by cases h)
theorem WP.cond_f {c : Operand} {x y : Code} (hc : ev e c = .bool false) (hf : WP P N y Kn Kx Kr e w) : WP P N (.cond c x y) Kn Kx Kr e w := WP.cond hc (fun h => by cases h) (fun _ => hf)
theorem WP.mono {c : Code} {Kn' : Env → World → Prop} {Kx' : Nat → Env → World → Prop} {Kr' : Env → World → Prop} (h : WP P N c Kn Kx Kr e w)
    (hn : ∀ e w, Kn e w → Kn' e w) (hx : ∀ j e w, Kx j e w → Kx' j e w) (hr : ∀ e w, Kr e w → Kr' e w) : WP P N c Kn' Kx' Kr' e w :=
  ⟨fun a h1 h2 h3 => Code.wp_mono (fun ex a w h => by
    cases ex <;> simp only [post] at h ⊢
    · exact ⟨h.1, h.2.1, hn _ _ h.2.2⟩
    · exact ⟨h.1, h.2.1, hx _ _ _ h.2.2⟩
    · exact ⟨h.1, h.2.1, hr _ _ h.2.2⟩) (h.run a h1 h2 h3)⟩
/-- a loop with an invariant on the frame and the world -/
theorem WP.loop0 {c : Code} (I : Env → World → Prop) (μ : Env → World → Nat) (h0 : I e w)
    (h : ∀ e w, I e w → WP P N c (fun e' w' => I e' w' ∧ μ e' w' < μ e w) Kx Kr e w) : WP P N (.loop c) Kn Kx Kr e w :=
  ⟨fun a h1 h2 h3 => wp_loop (fun a w => a.tmps.size = N ∧ a.defers = [] ∧ I (envOf a) w) (fun a w => μ (envOf a) w) ⟨h2, h3, h1 ▸ h0⟩ fun a w hI =>
    Code.wp_mono (fun ex a' w' hp => by
      cases ex <;> simp only [post, Exit.then] at hp ⊢ <;> try exact hp
      exact ⟨⟨hp.1, hp.2.1, hp.2.2.1⟩, hp.2.2.2⟩) ((h _ w hI.2.2).run a rfl hI.1 hI.2.1)⟩
/-- slots of the list M are whatever u says, the others as e says -/
def mix (M : List Nat) (u e : Env) : Env := fun j => bif M.elem j then u j else e j
structure Agree (M : List Nat) (e' e : Env) : Prop where
  out : ∀ j, M.elem j = false → e' j = e j
theorem Agree.refl (M : List Nat) (e : Env) : Agree M e e := ⟨fun _ _ => rfl⟩
theorem Agree.mix (M : List Nat) (u e : Env) : Agree M (mix M u e) e := ⟨fun j hj => by simp only [W.mix, hj]; rfl⟩
theorem Agree.mix2 {M M2 : List Nat} {u e' e : Env} (hs : M2.all (fun j => M.elem j) = true) (h : Agree M e' e) : Agree M (W.mix M2 u e') e := ⟨fun j hj => by
  simp only [W.mix]
  cases hm : M2.elem j with
  | false => exact h.out j hj
  | true =>
    have := List.all_eq_true.1 hs j (by simpa using hm)
    rw [this] at hj; cases hj⟩
theorem Agree.upd {M : List Nat} {d : Nat} {v : Value} {e' e : Env} (hd : M.elem d = true) (h : Agree M e' e) : Agree M (upd e' d v) e := ⟨fun j hj => by
  simp only [W.upd]
  cases hb : Nat.beq j d with
  | false => exact h.out j hj
  | true => have : j = d := Nat.eq_of_beq_eq_true hb
            subst this; rw [hd] at hj; cases hj⟩
theorem Agree.eq {M : List Nat} {e' e : Env} (h : Agree M e' e) : e' = W.mix M e' e := by
  funext j; simp only [W.mix]; cases hj : M.elem j with
  | false => exact h.out j hj
  | true => rfl
/-- THE RULE FOR LOOPS: M: the slots that the body writes; g: a number that goes down; I: the invariant, on a frame of which only the slots of M count -/
theorem WP.loop {c : Code} (M : List Nat) (I : Nat → Env → World → Prop) (g0 : Nat) (h0 : I g0 e w)
    (h : ∀ g u w, I g u w → WP P N c (fun e' w' => Agree M e' e ∧ ∃ g', g' < g ∧ I g' e' w') Kx Kr (W.mix M u e) w) : WP P N (.loop c) Kn Kx Kr e w :=
  ⟨fun a h1 h2 h3 => wp_loop_ghost (fun n a w => a.tmps.size = N ∧ a.defers = [] ∧ Agree M (envOf a) e ∧ I n (envOf a) w) g0 ⟨h2, h3, h1 ▸ Agree.refl M _, h1 ▸ h0⟩ fun n a w hI =>
    Code.wp_mono (fun ex a' w' hp => by
      cases ex <;> simp only [post, Exit.then] at hp ⊢ <;> try exact hp
      obtain ⟨p1, p2, p3, g', p4, p5⟩ := hp
      exact ⟨g', p4, p1, p2, p3, p5⟩) ((h n (envOf a) w hI.2.2.2).run a hI.2.2.1.eq hI.1 hI.2.1)⟩
/-- a known slot, written out -/
theorem upd_same {t : Nat} {v : Value} {e : Env} (h : e t = v) : upd e t v = e := by
  funext j; simp only [upd]; cases hb : Nat.beq j t with
  | false => rfl
  | true => have : j = t := Nat.eq_of_beq_eq_true hb
            subst this; exact h.symm
theorem WP.know {c : Code} {t : Nat} {v : Value} (h : e t = v) (hw : WP P N c Kn Kx Kr (upd e t v) w) : WP P N c Kn Kx Kr e w := by rw [upd_same h] at hw; exact hw

/-! ### calls -/
def resOf (e : Env) : List ResultVar → Option Value
  | [.tmp t] => some (e t)
  | [.tmp t, .tmp u] => some (.tuple #[e t, e u])
  | [.tmp t, .tmp u, .tmp v] => some (.tuple #[e t, e u, e v])
  | [.tmp t, .tmp u, .tmp v, .tmp x] => some (.tuple #[e t, e u, e v, e x])
  | [] => some (.tuple #[])
  | _ => none
theorem results_of {fn : Func} {l : List ResultVar} (hl : fn.results = l.toArray) {tmps : Array Value} {v : Value} (h : resOf (fun t => tmps.getD t undef) l = some v) (w : World) :
    (results fn tmps).run P w = .ok v w := by
  unfold results
  rw [hl]
  unfold resOf at h
  split at h <;> cases h <;> simp
def envAt (args : List Value) : Env := fun j => (args[j]?).getD undef
theorem Calls.ofWP {f : FuncId} {fn : Func} {c : Code} {args : List Value} {l : List ResultVar} {N : Nat} {R : Ending → World → Prop}
    (hf : P.funcs[f]? = some fn) (hb : fn.body = some c) (hl : fn.results = l.toArray) (hN : fn.ntmps = N) (hle : Nat.ble args.length N = true)
    (h : WP P N c (fun e w => ∃ v, resOf e l = some v ∧ R (.returned v) w) NoX (fun e w => ∃ v, resOf e l = some v ∧ R (.returned v) w) (envAt args) w) :
    Calls P f args.toArray w R := by
  have hle' : args.length ≤ N := by simpa using hle
  refine calls_of_wp hf hb (Code.wp_mono (fun ex a w hp => ?_) (h.run _ ?_ ?_ rfl))
  · cases ex <;> simp only [post, NoX] at hp <;> simp only [bodyPost]
    · obtain ⟨_, h2, v, h3, h4⟩ := hp
      exact ⟨h2, v, results_of hl h3 w, h4⟩
    · exact hp.2.2
    · obtain ⟨_, h2, v, h3, h4⟩ := hp
      exact ⟨h2, v, results_of hl h3 w, h4⟩
  · funext j
    simp only [envOf, envAt]
    by_cases hj : j < args.length
    · simp [hj, Array.getElem?_append]
    · simp [hj, Array.getElem?_append, Array.getElem?_replicate]
      split <;> rfl
  · simp [hN]; omega
end

/-! ### what is known of memory -/
structure Blk where
  g : Nat
  T : TypeId
  cs : List Value
/-- what is known of the world w: the blocks of L hold just what L says (none frozen); all other blocks of w0, but those of S, are as they were in w0 -/
structure SH (w0 : World) (S : List Nat) (w : World) (L : List Blk) : Prop where
  os : w.os = w0.os
  tape : w.tape = w0.tape
  output : w.output = w0.output
  size : w0.heap.size ≤ w.heap.size
  low : ∀ k, k < w0.heap.size → k ∉ S → w.heap[k]? = w0.heap[k]?
  own : ∀ b ∈ L, w.heap[b.g]? = some (.cells b.cs.toArray b.T (0, 0))
  may : ∀ b ∈ L, w0.heap.size ≤ b.g ∨ b.g ∈ S
  nodup : (L.map (·.g)).Nodup
theorem SH.refl (w : World) : SH w [] w [] := ⟨rfl, rfl, rfl, Nat.le_refl _, fun _ _ _ => rfl, by simp, by simp, by simp⟩
theorem SH.below {w0 w : World} {L : List Blk} (h : SH w0 [] w L) : Below w0.heap.size w0 w := ⟨h.os, h.tape, h.output, h.size, fun k hk => h.low k hk (by simp)⟩
theorem SH.lt {w0 w : World} {S : List Nat} {L : List Blk} (h : SH w0 S w L) {b : Blk} (hb : b ∈ L) : b.g < w.heap.size := by
  rcases Nat.lt_or_ge b.g w.heap.size with hlt | hge
  · exact hlt
  · have := h.own b hb; rw [Array.getElem?_eq_none hge] at this; cases this
theorem SH.toBelow {w0 w w' : World} {S : List Nat} {L : List Blk} (h : SH w0 S w L) (hb : Below w.heap.size w w') : SH w0 S w' L where
  os := hb.os.trans h.os
  tape := hb.tape.trans h.tape
  output := hb.output.trans h.output
  size := Nat.le_trans h.size hb.size
  low k hk hS := (hb.block k (Nat.lt_of_lt_of_le hk h.size)).trans (h.low k hk hS)
  own b hm := (hb.block _ (h.lt hm)).trans (h.own b hm)
  may := h.may
  nodup := h.nodup
theorem SH.ldL {w0 w : World} {S : List Nat} {L : List Blk} (h : SH w0 S w L) (i : Nat) {b : Blk} (hi : L[i]? = some b) (k : Nat) {v : Value} (hk : b.cs[k]? = some v) : w.cell? ⟨b.g, k, none⟩ = some v := by
  have hm : b ∈ L := List.mem_of_getElem? hi
  have := h.own b hm
  simp [World.cell?, this, hk]
theorem cell_lt {w : World} {a : Addr} {v : Value} (h : w.cell? a = some v) : a.block < w.heap.size := by
  rcases Nat.lt_or_ge a.block w.heap.size with hlt | hge
  · exact hlt
  · simp [World.cell?, Array.getElem?_eq_none hge] at h
theorem SH.ld0 {w0 w : World} {L : List Blk} (h : SH w0 [] w L) {a : Addr} {v : Value} (hc : w0.cell? a = some v) : w.cell? a = some v :=
  (h.below.cell (cell_lt hc)).trans hc
theorem cell_below {w w' : World} (hb : Below w.heap.size w w') {a : Addr} {v : Value} (hc : w.cell? a = some v) : w'.cell? a = some v := (hb.cell (cell_lt hc)).trans hc
theorem SH.drop {w0 w : World} {S : List Nat} {L : List Blk} (h : SH w0 S w L) {L' : List Blk} (hs : L'.Sublist L) : SH w0 S w L' :=
  ⟨h.os, h.tape, h.output, h.size, h.low, fun b hb => h.own b (hs.subset hb), fun b hb => h.may b (hs.subset hb), (hs.map _).nodup h.nodup⟩
theorem SH.alloc {w0 w : World} {S : List Nat} {L : List Blk} (h : SH w0 S w L) (T : TypeId) (cs : List Value) :
    SH w0 S (w.alloc (.cells cs.toArray T)) (⟨w.heap.size, T, cs⟩ :: L) where
  os := h.os
  tape := h.tape
  output := h.output
  size := by
    show w0.heap.size ≤ (w.heap.push _).size
    rw [Array.size_push]; have := h.size; omega
  low k hk hS := (Below.heap_alloc w _ k (Nat.lt_of_lt_of_le hk h.size)).trans (h.low k hk hS)
  own b hm := by
    rcases List.mem_cons.1 hm with rfl | hm
    · show (w.heap.push _)[w.heap.size]? = _
      simp
    · exact (Below.heap_alloc w _ b.g (h.lt hm)).trans (h.own b hm)
  may b hm := by
    rcases List.mem_cons.1 hm with rfl | hm
    · exact .inl h.size
    · exact h.may b hm
  nodup := by
    simp only [List.map_cons, List.nodup_cons]
    refine ⟨fun hc => ?_, h.nodup⟩
    obtain ⟨b, hb, he⟩ := List.mem_map.1 hc
    have := h.lt hb; omega
theorem SH.drew {w0 w : World} {S : List Nat} {L : List Blk} (h : SH w0 S w L) : SH w0 S { w with drawn := w.drawn + 1 } L := ⟨h.os, h.tape, h.output, h.size, h.low, h.own, h.may, h.nodup⟩
/-- a store into a known block -/
theorem SH.set {w0 w : World} {S : List Nat} {L : List Blk} (h : SH w0 S w L) (i : Nat) {b : Blk} (hi : L[i]? = some b) (k : Nat) (v : Value) :
    SH w0 S (w.setCell ⟨b.g, k, none⟩ v) (L.set i ⟨b.g, b.T, b.cs.set k v⟩) := by
  have hlen : i < L.length := (List.getElem?_eq_some_iff.1 hi).1
  have hgi : L[i] = b := (List.getElem?_eq_some_iff.1 hi).2
  have hm : b ∈ L := List.mem_of_getElem? hi
  have hmap : (L.set i ⟨b.g, b.T, b.cs.set k v⟩).map (·.g) = L.map (·.g) := by
    rw [List.map_set]
    have : b.g = (L.map (·.g))[i]'(by simpa using hlen) := by simp [hgi]
    rw [show (Blk.g ⟨b.g, b.T, b.cs.set k v⟩) = (L.map (·.g))[i]'(by simpa using hlen) from this, List.set_getElem_self]
  refine ⟨h.os, h.tape, h.output, by simpa [World.setCell] using h.size, fun j hj hS => ?_, fun c hc => ?_, fun c hc => ?_, by rw [hmap]; exact h.nodup⟩
  · rw [Below.heap_setCell _ _ _ j (fun he => ?_)]
    · exact h.low j hj hS
    · have he : j = b.g := he
      subst he
      rcases h.may b hm with h1 | h1
      · omega
      · exact hS h1
  · rcases List.mem_iff_getElem?.1 hc with ⟨j, hj⟩
    rw [List.getElem?_set] at hj
    split at hj
    · rename_i hij
      subst hij
      cases hj
      have := h.own b hm
      simp only [World.setCell]
      simp [Array.getElem?_modify, this]
    · rename_i hij
      have hmc : c ∈ L := List.mem_of_getElem? hj
      rw [Below.heap_setCell _ _ _ c.g (fun he => ?_)]
      · exact h.own c hmc
      · have he : c.g = b.g := he
        have hjl : j < L.length := (List.getElem?_eq_some_iff.1 hj).1
        have hcj : L[j] = c := (List.getElem?_eq_some_iff.1 hj).2
        have hn := h.nodup
        rw [List.nodup_iff_pairwise_ne, List.pairwise_iff_getElem] at hn
        rcases Nat.lt_or_gt_of_ne hij with hlt | hgt
        · exact hn i j (by simpa) (by simpa) hlt (by simp [hgi, hcj, he])
        · exact hn j i (by simpa) (by simpa) hgt (by simp [hgi, hcj, he])
  · have : c.g ∈ L.map (·.g) := by rw [← hmap]; exact List.mem_map_of_mem hc
    obtain ⟨d, hd, he⟩ := List.mem_map.1 this
    rw [← he]; exact h.may d hd
theorem SH.notFrozen {w0 w : World} {S : List Nat} {L : List Blk} (h : SH w0 S w L) {b : Blk} (hm : b ∈ L) (k : Nat) : w.frozen? ⟨b.g, k, none⟩ = false := by
  have := h.own b hm
  simp [World.frozen?, this]
end Go.W

/-
  The rules for single operations: a region is a list of operations in one of three modes (plain; still: the world stays; quiet: the world may get new blocks).
-/
set_option linter.all false
namespace Go.W
open Go.RowKit

def updo (e : Env) : Option Nat → Value → Env
  | some d, v => upd e d v
  | none, _ => e
theorem envOf_puto {a : Act} {N : Nat} (d : Option Nat) (v : Value) (hs : a.tmps.size = N) (hd : (d.all fun d => Nat.blt d N) = true) : envOf (a.put d v) = updo (envOf a) d v := by
  cases d with
  | none => rfl
  | some d => exact envOf_put v hs (by simpa using hd)

inductive Md where
  | plain | still | quiet

structure OPS (P : Program) (N : Nat) (m : Md) (ops : Array Oper) (K : Env → World → Prop) (l : List Oper) (e : Env) (w : World) : Prop where
  run : ∀ a : Act, envOf a = e → a.tmps.size = N → a.defers = [] → match m with
    | .plain => wpList P ops (post N K NoX NoR) l a w
    | .still => wpStill P ops w (fun a' => a'.tmps.size = N ∧ a'.defers = [] ∧ K (envOf a') w) l a
    | .quiet => wpQuiet P ops (fun w' => Below w.heap.size w w') (fun a' => a'.tmps.size = N ∧ a'.defers = [] ∧ ∀ w', Below w.heap.size w w' → K (envOf a') w') l a

section
variable {P : Program} {N : Nat} {m : Md} {ops : Array Oper} {K : Env → World → Prop} {Kn : Env → World → Prop} {Kx : Nat → Env → World → Prop} {Kr : Env → World → Prop} {e : Env} {w : World} {rest : List Oper} {o : Oper}
theorem OPS.nil (h : K e w) : OPS P N .plain ops K [] e w := ⟨fun _ h1 h2 h3 => wpList_nil ⟨h2, h3, h1 ▸ h⟩⟩
theorem OPS.nil_s (h : K e w) : OPS P N .still ops K [] e w := ⟨fun _ h1 h2 h3 => wpStill_nil ⟨h2, h3, h1 ▸ h⟩⟩
theorem OPS.nil_q (h : ∀ w', Below w.heap.size w w' → K e w') : OPS P N .quiet ops K [] e w := ⟨fun _ h1 h2 h3 => wpQuiet_nil ⟨h2, h3, fun w' hb => h1 ▸ h w' hb⟩⟩
theorem post_up : ∀ ex a w, post N Kn NoX NoR ex a w → post N Kn Kx Kr ex a w := by
  intro ex a w h
  cases ex <;> simp only [post, NoX, NoR] at h ⊢ <;> try exact h
  · exact h.2.2.elim
  · exact h.2.2.elim
theorem wpStill_mono_post {Q Q' : Act → Prop} (hq : ∀ a, Q a → Q' a) : ∀ (l : List Oper) (a : Act), wpStill P ops w Q l a → wpStill P ops w Q' l a
  | [], _, h => hq _ h
  | o :: rest, a, h => by
    unfold wpStill at h ⊢
    split
    · rename_i hw; rw [if_pos hw] at h; exact Oper.still_mono (wpStill_mono_post hq rest) h
    · rename_i hw; rw [if_neg hw] at h; exact wpStill_mono_post hq rest _ h
theorem wpQuiet_mono_post {C : World → Prop} {Q Q' : Act → Prop} (hq : ∀ a, Q a → Q' a) : ∀ (l : List Oper) (a : Act), wpQuiet P ops C Q l a → wpQuiet P ops C Q' l a
  | [], _, h => hq _ h
  | o :: rest, a, h => by
    unfold wpQuiet at h ⊢
    split
    · rename_i hw; rw [if_pos hw] at h; exact Oper.quiet_mono (wpQuiet_mono_post hq rest) h
    · rename_i hw; rw [if_neg hw] at h; exact wpQuiet_mono_post hq rest _ h
theorem WP.region {id : Nat} {l : List Oper} (h : OPS P N .plain l.toArray Kn l e w) : WP P N (.region id l.toArray false) Kn Kx Kr e w :=
  ⟨fun a h1 h2 h3 => Code.wp_mono post_up (wp_region_lit (h.run a h1 h2 h3))⟩
theorem WP.region_still {id : Nat} {l : List Oper} (hm : P.follows .mixedOrders = true) (hB : Region.lexB .any l.toArray = true) (h : OPS P N .still l.toArray Kn l e { w with drawn := w.drawn + 1 }) : WP P N (.region id l.toArray true) Kn Kx Kr e w :=
  ⟨fun a h1 h2 h3 => wp_region_still_lit hm hB (h.run a h1 h2 h3)⟩
theorem WP.region_quiet {id : Nat} {l : List Oper} (hm : P.follows .mixedOrders = true) (hB : Region.lexB .any l.toArray = true) (h : OPS P N .quiet l.toArray Kn l e { w with drawn := w.drawn + 1 }) : WP P N (.region id l.toArray true) Kn Kx Kr e w :=
  ⟨fun a h1 h2 h3 => wp_region_quiet (C := fun w' => Below w.heap.size { w with drawn := w.drawn + 1 } w') hm hB (Below.refl _ _) (by
    refine (wpQuiet_mono_post ?_) _ _ (by simpa using h.run a h1 h2 h3)
    intro a' hh w' hw'
    exact ⟨hh.1, hh.2.1, hh.2.2 w' hw'⟩)⟩
theorem WP.region_tail {id : Nat} {l : List Oper} (n : Nat) (hm : P.follows .mixedOrders = true) (hB : Region.lexTailB .any l.toArray n = true)
    (h : OPS P N .still l.toArray (fun e w => OPS P N .plain l.toArray Kn (l.drop n) e w) (l.take n) e { w with drawn := w.drawn + 1 }) : WP P N (.region id l.toArray true) Kn Kx Kr e w :=
  ⟨fun a h1 h2 h3 => Code.wp_mono post_up (wp_region_still_tail n hm hB (by
    refine wpStill_mono_post ?_ _ _ (h.run a h1 h2 h3)
    intro a' hh
    exact hh.2.2.run a' rfl hh.1 hh.2.1))⟩

theorem WP.rstill {w0 : World} {S : List Nat} {L : List Blk} {id : Nat} {l : List Oper} (hm : P.follows .mixedOrders = true) (hB : Region.lexB .any l.toArray = true) (H : SH w0 S w L) (h : ∀ w', Below w.heap.size w w' → SH w0 S w' L → OPS P N .still l.toArray Kn l e w') : WP P N (.region id l.toArray true) Kn Kx Kr e w :=
  WP.region_still hm hB (h _ ⟨rfl, rfl, rfl, Nat.le_refl _, fun _ _ => rfl⟩ H.drew)
theorem WP.rquiet {w0 : World} {S : List Nat} {L : List Blk} {id : Nat} {l : List Oper} (hm : P.follows .mixedOrders = true) (hB : Region.lexB .any l.toArray = true) (H : SH w0 S w L) (h : ∀ w', Below w.heap.size w w' → SH w0 S w' L → OPS P N .quiet l.toArray Kn l e w') : WP P N (.region id l.toArray true) Kn Kx Kr e w :=
  WP.region_quiet hm hB (h _ ⟨rfl, rfl, rfl, Nat.le_refl _, fun _ _ => rfl⟩ H.drew)
theorem WP.rtail {w0 : World} {S : List Nat} {L : List Blk} {id : Nat} {l : List Oper} (n : Nat) (hm : P.follows .mixedOrders = true) (hB : Region.lexTailB .any l.toArray n = true) (H : SH w0 S w L)
    (h : ∀ w', Below w.heap.size w w' → SH w0 S w' L → OPS P N .still l.toArray (fun e w => OPS P N .plain l.toArray Kn (l.drop n) e w) (l.take n) e w') : WP P N (.region id l.toArray true) Kn Kx Kr e w :=
  WP.region_tail n hm hB (h _ ⟨rfl, rfl, rfl, Nat.le_refl _, fun _ _ => rfl⟩ H.drew)
theorem OPS.nilq {w0 : World} {S : List Nat} {L : List Blk} (H : SH w0 S w L) (h : ∀ w', Below w.heap.size w w' → SH w0 S w' L → K e w') : OPS P N .quiet ops K [] e w := OPS.nil_q fun w' hb => h w' hb (H.toBelow hb)

/-- operation 'op' (of type ty) yields v in every world that keeps what w holds, and leaves that world -/
structure Ev (P : Program) (e : Env) (w : World) (ty : TypeId) (op : Op) (v : Value) : Prop where
  run : ∀ w', Below w.heap.size w w' → ∀ o : Oper, o.op = op → o.type = ty → (execOp (ev e) o).run P w' = .ok (.value v) w'
theorem wanted_none (hg : o.guard = none) (y : Nat → Option Bool) : Region.wanted o y = true := by simp [Region.wanted, hg]
theorem OPS.val {d : Nat} {v : Value} (hg : o.guard = none) (hd : o.dst = some d) (hN : Nat.blt d N = true) (hE : Ev P e w o.type o.op v) (h : OPS P N m ops K rest (upd e d v) w) : OPS P N m ops K (o :: rest) e w :=
  ⟨fun a h1 h2 h3 => by
    have hn := h.run (a.put (some d) v) (by rw [envOf_put v h2 hN, h1]) (by rw [size_put]; exact h2) (by rw [defers_put]; exact h3)
    have hr := fun w' hb => hE.run w' hb o rfl rfl
    rw [← h1, ← eval_eq] at hr
    cases m with
    | plain =>
      simp only at hn ⊢
      unfold wpList
      rw [if_pos (wanted_none hg _)]
      refine .inl ?_
      unfold Oper.wp
      rw [hr w (Below.refl _ _)]
      simp only [Oper.upon, hd]
      exact hn
    | still =>
      simp only at hn ⊢
      unfold wpStill
      rw [if_pos (wanted_none hg _)]
      unfold Oper.still
      rw [hr w (Below.refl _ _)]
      simp only [Oper.stillUpon, hd]
      exact ⟨trivial, hn⟩
    | quiet =>
      simp only at hn ⊢
      unfold wpQuiet
      rw [if_pos (wanted_none hg _)]
      refine ⟨v, fun w' hb => ?_, by rw [hd]; exact hn⟩
      unfold Oper.quietAt
      rw [hr w' hb]
      exact ⟨rfl, rfl⟩⟩
@[irreducible] def gv (b want : Bool) (v : Value) : Value := if (b == want) = true then v else undef
theorem yielded_of {a : Act} {j dj : Nat} {b : Bool} (hj : ops[j]?.bind (·.dst) = some dj) (hb : envOf a dj = .bool b) : yielded ops a.tmps j = some b := by
  unfold yielded
  simp only [envOf, undef] at hb
  rw [hj]
  simp only [Option.bind_some]
  cases ht : a.tmps[dj]? with
  | none => simp [ht] at hb
  | some u => simp [ht] at hb; subst hb; rfl
/-- a guarded operation -/
theorem OPS.gval {d j dj : Nat} {want b : Bool} {v : Value} (hg : o.guard = some (j, want)) (hj : ops[j]?.bind (·.dst) = some dj) (hb : e dj = .bool b) (hd : o.dst = some d) (hN : Nat.blt d N = true)
    (hE : b = want → Ev P e w o.type o.op v) (h : OPS P N m ops K rest (upd e d (gv b want v)) w) : OPS P N m ops K (o :: rest) e w :=
  ⟨fun a h1 h2 h3 => by
    have hn := h.run (a.put (some d) (gv b want v)) (by rw [envOf_put _ h2 hN, h1]) (by rw [size_put]; exact h2) (by rw [defers_put]; exact h3)
    have hy := yielded_of (a := a) hj (h1 ▸ hb)
    by_cases hw : b = want
    · subst hw
      have hr := fun w' hb => (hE rfl).run w' hb o rfl rfl
      rw [← h1, ← eval_eq] at hr
      have hwt : Region.wanted o (yielded ops a.tmps) = true := by simp [Region.wanted, hg, hy]
      have hgv : gv b b v = v := by simp [gv]
      rw [hgv] at hn
      cases m with
      | plain =>
        simp only at hn ⊢
        unfold wpList
        rw [if_pos hwt]
        refine .inl ?_
        unfold Oper.wp
        rw [hr w (Below.refl _ _)]
        simp only [Oper.upon, hd]
        exact hn
      | still =>
        simp only at hn ⊢
        unfold wpStill
        rw [if_pos hwt]
        unfold Oper.still
        rw [hr w (Below.refl _ _)]
        simp only [Oper.stillUpon, hd]
        exact ⟨trivial, hn⟩
      | quiet =>
        simp only at hn ⊢
        unfold wpQuiet
        rw [if_pos hwt]
        refine ⟨v, fun w' hb => ?_, by rw [hd]; exact hn⟩
        unfold Oper.quietAt
        rw [hr w' hb]
        exact ⟨rfl, rfl⟩
    · have hwt : Region.wanted o (yielded ops a.tmps) = false := by simp [Region.wanted, hg, hy, hw]
      have hgv : gv b want v = undef := by simp [gv, hw]
      rw [hgv] at hn
      cases m with
      | plain => simp only at hn ⊢; unfold wpList; rw [hwt, hd]; exact hn
      | still => simp only at hn ⊢; unfold wpStill; rw [hwt, hd]; exact hn
      | quiet => simp only at hn ⊢; unfold wpQuiet; rw [hwt, hd]; exact hn⟩

/-- the operation is a call of f at these arguments -/
structure EvC (P : Program) (e : Env) (op : Op) (f : FuncId) (args : List Value) : Prop where
  run : ∀ w (o : Oper), o.op = op → (execOp (ev e) o).run P w = .ok (.enter f args.toArray) w
/-- a call in a plain region -/
theorem OPS.call {d : Option Nat} {f : FuncId} {args : List Value} {R : Ending → World → Prop} (hg : o.guard = none) (hd : o.dst = d) (hN : (d.all fun d => Nat.blt d N) = true) (hE : EvC P e o.op f args) (hC : Calls P f args.toArray w R)
    (h : ∀ e' w', R e' w' → ∃ v, e' = .returned v ∧ OPS P N .plain ops K rest (updo e d v) w') : OPS P N .plain ops K (o :: rest) e w :=
  ⟨fun a h1 h2 h3 => by
    simp only
    unfold wpList
    rw [if_pos (wanted_none hg _)]
    refine .inl ?_
    unfold Oper.wp
    have hr := hE.run w o rfl
    rw [← h1, ← eval_eq] at hr
    rw [hr]
    refine hC.mono fun e' w' hR => ?_
    obtain ⟨v, rfl, hn⟩ := h e' w' hR
    have := hn.run (a.put d v) (by rw [envOf_puto d v h2 hN, h1]) (by rw [size_put]; exact h2) (by rw [defers_put]; exact h3)
    rw [hd]
    exact this⟩
/-- a call in a quiet region -/
theorem OPS.callq {d : Nat} {f : FuncId} {args : List Value} {v : Value} (hg : o.guard = none) (hd : o.dst = some d) (hN : Nat.blt d N = true) (hE : EvC P e o.op f args)
    (hC : ∀ w', Below w.heap.size w w' → Calls P f args.toArray w' fun e' w'' => e' = .returned v ∧ Below w'.heap.size w' w'')
    (h : OPS P N .quiet ops K rest (upd e d v) w) : OPS P N .quiet ops K (o :: rest) e w :=
  ⟨fun a h1 h2 h3 => by
    have hn := h.run (a.put (some d) v) (by rw [envOf_put v h2 hN, h1]) (by rw [size_put]; exact h2) (by rw [defers_put]; exact h3)
    simp only at hn ⊢
    unfold wpQuiet
    rw [if_pos (wanted_none hg _)]
    refine ⟨v, fun w' hb => ?_, by rw [hd]; exact hn⟩
    unfold Oper.quietAt
    have hr := hE.run w' o rfl
    rw [← h1, ← eval_eq] at hr
    rw [hr]
    exact ⟨rfl, (hC w' hb).mono fun e' w'' ⟨he, hb2⟩ => ⟨he, hb.trans (hb2.mono hb.size)⟩⟩⟩
/-- a guarded call in a quiet region -/
theorem OPS.gcallq {d j dj : Nat} {want b : Bool} {f : FuncId} {args : List Value} {v : Value} (hg : o.guard = some (j, want)) (hj : ops[j]?.bind (·.dst) = some dj) (hb : e dj = .bool b) (hd : o.dst = some d) (hN : Nat.blt d N = true) (hE : EvC P e o.op f args)
    (hC : b = want → ∀ w', Below w.heap.size w w' → Calls P f args.toArray w' fun e' w'' => e' = .returned v ∧ Below w'.heap.size w' w'')
    (h : OPS P N .quiet ops K rest (upd e d (gv b want v)) w) : OPS P N .quiet ops K (o :: rest) e w :=
  ⟨fun a h1 h2 h3 => by
    have hn := h.run (a.put (some d) (gv b want v)) (by rw [envOf_put _ h2 hN, h1]) (by rw [size_put]; exact h2) (by rw [defers_put]; exact h3)
    have hy := yielded_of (a := a) hj (h1 ▸ hb)
    simp only at hn ⊢
    unfold wpQuiet
    by_cases hw : b = want
    · subst hw
      have hwt : Region.wanted o (yielded ops a.tmps) = true := by simp [Region.wanted, hg, hy]
      have hgv : gv b b v = v := by simp [gv]
      rw [hgv] at hn
      rw [if_pos hwt]
      refine ⟨v, fun w' hb => ?_, by rw [hd]; exact hn⟩
      unfold Oper.quietAt
      have hr := hE.run w' o rfl
      rw [← h1, ← eval_eq] at hr
      rw [hr]
      exact ⟨rfl, (hC rfl w' hb).mono fun e' w'' ⟨he, hb2⟩ => ⟨he, hb.trans (hb2.mono hb.size)⟩⟩
    · have hwt : Region.wanted o (yielded ops a.tmps) = false := by simp [Region.wanted, hg, hy, hw]
      have hgv : gv b want v = undef := by simp [gv, hw]
      rw [hgv] at hn
      rw [hwt, hd]; exact hn⟩
/-- a guarded operation of a plain region whose guard says no -/
theorem OPS.gno {d : Option Nat} {j dj : Nat} {want b : Bool} (hg : o.guard = some (j, want)) (hj : ops[j]?.bind (·.dst) = some dj) (hb : e dj = .bool b) (hw : (b == want) = false) (hd : o.dst = d) (hN : (d.all fun d => Nat.blt d N) = true)
    (h : OPS P N .plain ops K rest (updo e d undef) w) : OPS P N .plain ops K (o :: rest) e w :=
  ⟨fun a h1 h2 h3 => by
    have hy := yielded_of (a := a) hj (h1 ▸ hb)
    have hwt : Region.wanted o (yielded ops a.tmps) = false := by simpa [Region.wanted, hg, hy] using hw
    simp only
    unfold wpList
    rw [hwt]
    have := h.run (a.put d undef) (by rw [envOf_puto d _ h2 hN, h1]) (by rw [size_put]; exact h2) (by rw [defers_put]; exact h3)
    rw [hd]
    exact this⟩
/-- a guarded operation whose guard says yes: as if it had none -/
theorem OPS.gyes {j dj : Nat} {want b : Bool} (hg : o.guard = some (j, want)) (hj : ops[j]?.bind (·.dst) = some dj) (hb : e dj = .bool b) (hw : (b == want) = true)
    (h : OPS P N .plain ops K ({ o with guard := none } :: rest) e w) : OPS P N .plain ops K (o :: rest) e w :=
  ⟨fun a h1 h2 h3 => by
    have hy := yielded_of (a := a) hj (h1 ▸ hb)
    have hwt : Region.wanted o (yielded ops a.tmps) = true := by simpa [Region.wanted, hg, hy] using hw
    have := h.run a h1 h2 h3
    simp only at this ⊢
    unfold wpList at this ⊢
    rw [if_pos (wanted_none rfl _)] at this
    rw [if_pos hwt]
    exact this⟩
/-- an operation that changes the world, in a plain region -/
theorem OPS.act {d : Nat} {v : Value} {w' : World} (hg : o.guard = none) (hd : o.dst = some d) (hN : Nat.blt d N = true) (hr : (execOp (ev e) o).run P w = .ok (.value v) w')
    (h : OPS P N .plain ops K rest (upd e d v) w') : OPS P N .plain ops K (o :: rest) e w :=
  ⟨fun a h1 h2 h3 => by
    have hn := h.run (a.put (some d) v) (by rw [envOf_put v h2 hN, h1]) (by rw [size_put]; exact h2) (by rw [defers_put]; exact h3)
    rw [← h1, ← eval_eq] at hr
    simp only at hn ⊢
    unfold wpList
    rw [if_pos (wanted_none hg _)]
    refine .inl ?_
    unfold Oper.wp
    rw [hr]
    simp only [Oper.upon, hd]
    exact hn⟩
/-- the same, of an operation that yields nothing -/
theorem OPS.actn {w' : World} (hg : o.guard = none) (hd : o.dst = none) (hr : (execOp (ev e) o).run P w = .ok .skip w')
    (h : OPS P N .plain ops K rest e w') : OPS P N .plain ops K (o :: rest) e w :=
  ⟨fun a h1 h2 h3 => by
    have hn := h.run a h1 h2 h3
    rw [← h1, ← eval_eq] at hr
    simp only at hn ⊢
    unfold wpList
    rw [if_pos (wanted_none hg _)]
    refine .inl ?_
    unfold Oper.wp
    rw [hr]
    simp only [Oper.upon, hd, Act.put]
    exact hn⟩
end
end Go.W

/-
  What single operations yield.
-/
set_option linter.all false
namespace Go.W
open Go.RowKit

def cellsAt (w : World) (b : Nat) : Nat → List Value → Prop
  | _, [] => True
  | o, v :: vs => w.cell? ⟨b, o, none⟩ = some v ∧ cellsAt w b (o + 1) vs
theorem cellsAt_below {w w' : World} (hb : Below w.heap.size w w') {b : Nat} : ∀ {vs : List Value} {o : Nat}, cellsAt w b o vs → cellsAt w' b o vs
  | [], _, _ => trivial
  | _ :: _, _, h => ⟨cell_below hb h.1, cellsAt_below hb h.2⟩
theorem addr_add (b o n : Nat) : (⟨b, o, none⟩ : Addr).add n = ⟨b, o + n, none⟩ := by
  unfold Addr.add; split
  · rename_i h; subst h; rfl
  · rfl
theorem loadCellsFrom_at {P : Program} {w : World} {b o : Nat} : ∀ (vs : List Value) (i : Nat) (acc : Array Value), cellsAt w b (o + i) vs → (loadCellsFrom ⟨b, o, none⟩ i vs.length acc).run P w = .ok (acc ++ vs.toArray) w
  | [], i, acc, _ => by simp [loadCellsFrom, Sem.run_pure]
  | v :: vs, i, acc, h => by
    simp only [List.length_cons, loadCellsFrom, addr_add, Sem.run_bind, run_load, h.1, Result.andThen_ok]
    rw [loadCellsFrom_at vs (i + 1) (acc.push v) h.2]
    simp
theorem loadCells_at {P : Program} {w : World} {b o : Nat} (vs : List Value) (h : cellsAt w b o vs) : (loadCells ⟨b, o, none⟩ vs.length).run P w = .ok vs.toArray w := by
  unfold loadCells
  rw [loadCellsFrom_at vs 0 #[] h]
  simp

theorem l1 {a a' : Value} (h : a = a') : [a] = [a'] := by rw [h]
theorem l2 {a a' b b' : Value} (h : a = a') (h2 : b = b') : [a, b] = [a', b'] := by rw [h, h2]
theorem l3 {a a' b b' c c' : Value} (h : a = a') (h2 : b = b') (h3 : c = c') : [a, b, c] = [a', b', c'] := by rw [h, h2, h3]
theorem l4 {a a' b b' c c' d d' : Value} (h : a = a') (h2 : b = b') (h3 : c = c') (h4 : d = d') : [a, b, c, d] = [a', b', c', d'] := by rw [h, h2, h3, h4]
section
variable {P : Program} {e : Env} {w : World} {ty t : TypeId} {x y c i : Operand}
theorem Ev.move : Ev P e w ty (.move x) (ev e x) := ⟨fun w' _ o ho _ => by unfold execOp; rw [ho]; rfl⟩
theorem Ev.assign : Ev P e w ty (.assign x) (ev e x) := ⟨fun w' _ o ho _ => by unfold execOp; rw [ho]; rfl⟩
theorem gvE {b want : Bool} {v x : Value} (h : b = want) (hx : x = gv b want v) : x = v := by rw [hx, gv, h]; simp
theorem Ev.mvI {k : IntKind} {n : Int} (hx : ev e x = .int k n) : Ev P e w ty (.move x) (.int k n) := hx ▸ Ev.move
theorem Ev.mvB {b : Bool} (hx : ev e x = .bool b) : Ev P e w ty (.move x) (.bool b) := hx ▸ Ev.move
theorem Ev.mvS {A : Option Addr} {n c : Nat} (hx : ev e x = .slice A n c) : Ev P e w ty (.move x) (.slice A n c) := hx ▸ Ev.move
theorem Ev.mvP {A : Option Addr} (hx : ev e x = .pointer A) : Ev P e w ty (.move x) (.pointer A) := hx ▸ Ev.move
theorem Ev.mvA {vs : Array Value} (hx : ev e x = .agg vs) : Ev P e w ty (.move x) (.agg vs) := hx ▸ Ev.move
theorem Ev.mvF {fn : Fn} {a b : Array Value} (hx : ev e x = .func fn a b) : Ev P e w ty (.move x) (.func fn a b) := hx ▸ Ev.move
theorem Ev.mvT {vs : Array Value} (hx : ev e x = .tuple vs) : Ev P e w ty (.move x) (.tuple vs) := hx ▸ Ev.move
theorem Ev.asI {k : IntKind} {n : Int} (hx : ev e x = .int k n) : Ev P e w ty (.assign x) (.int k n) := hx ▸ Ev.assign
theorem Ev.asB {b : Bool} (hx : ev e x = .bool b) : Ev P e w ty (.assign x) (.bool b) := hx ▸ Ev.assign
theorem Ev.asS {A : Option Addr} {n c : Nat} (hx : ev e x = .slice A n c) : Ev P e w ty (.assign x) (.slice A n c) := hx ▸ Ev.assign
theorem Ev.asP {A : Option Addr} (hx : ev e x = .pointer A) : Ev P e w ty (.assign x) (.pointer A) := hx ▸ Ev.assign
theorem Ev.asA {vs : Array Value} (hx : ev e x = .agg vs) : Ev P e w ty (.assign x) (.agg vs) := hx ▸ Ev.assign
theorem Ev.asF {fn : Fn} {a b : Array Value} (hx : ev e x = .func fn a b) : Ev P e w ty (.assign x) (.func fn a b) := hx ▸ Ev.assign
theorem Ev.pick {b : Bool} (hc : ev e c = .bool b) : Ev P e w ty (.pick c x y) (if b = true then ev e x else ev e y) := ⟨fun w' _ o ho _ => by unfold execOp; rw [ho]; simp only [hc, asBool]; rfl⟩
theorem Ev.pickOr {b u : Bool} (hc : ev e c = .bool b) (hx : ev e x = .bool true) (hy : ev e y = gv b false (.bool u)) : Ev P e w ty (.pick c x y) (.bool (b || u)) := by
  have := Ev.pick (P := P) (w := w) (ty := ty) (x := x) (y := y) hc
  cases b <;> simpa [hx, hy, gv] using this
theorem Ev.pickAnd {b u : Bool} (hc : ev e c = .bool b) (hx : ev e x = gv b true (.bool u)) (hy : ev e y = .bool false) : Ev P e w ty (.pick c x y) (.bool (b && u)) := by
  have := Ev.pick (P := P) (w := w) (ty := ty) (x := x) (y := y) hc
  cases b <;> simpa [hx, hy, gv] using this
theorem Ev.load1 {a : Addr} {v : Value} (hA : ∀ w, (isAgg t).run P w = .ok false w) (ha : ev e x = .pointer (some a)) (hc : w.cell? a = some v) : Ev P e w ty (.load t x) v :=
  ⟨fun w' hb o ho _ => by
    unfold execOp; rw [ho]
    simp only [ha, Instr.loadAt, Instr.sureAddr, Sem.run_bind, Sem.run_pure, Result.andThen_ok, loadVar, hA, Bool.false_eq_true, if_false, run_load, cell_below hb hc]⟩
theorem Ev.loadN {b o : Nat} (vs : List Value) (hA : ∀ w, (isAgg t).run P w = .ok true w) (hn : ∀ w, (Go.sizeOf t).run P w = .ok vs.length w) (ha : ev e x = .pointer (some ⟨b, o, none⟩)) (hc : cellsAt w b o vs) :
    Ev P e w ty (.load t x) (.agg vs.toArray) :=
  ⟨fun w' hb o ho _ => by
    unfold execOp; rw [ho]
    simp only [ha, Instr.loadAt, Instr.sureAddr, Sem.run_bind, Sem.run_pure, Result.andThen_ok, loadVar, hA, if_true, hn, loadCells_at vs (cellsAt_below hb hc)]⟩
theorem cellsAt_own {w0 : World} {S : List Nat} {L : List Blk} (H : SH w0 S w L) (i : Nat) {g : Nat} {T : TypeId} {cs : List Value} (hi : L[i]? = some ⟨g, T, cs⟩) : ∀ (vs : List Value) (k : Nat), (∀ j (hj : j < vs.length), cs[k + j]? = some (vs[j]'hj)) → cellsAt w g k vs
  | [], _, _ => trivial
  | v :: vs, k, h => ⟨H.ldL i hi k (h 0 (Nat.zero_lt_succ _)), cellsAt_own H i hi vs (k + 1) fun j hj => by
      have := h (j + 1) (Nat.succ_lt_succ hj)
      rw [show k + 1 + j = k + (j + 1) by omega]
      exact this⟩
/-- a whole struct that fills a block of its own -/
theorem Ev.loadO {w0 : World} {S : List Nat} {L : List Blk} (i : Nat) {g n : Nat} {T : TypeId} {cs : List Value} (H : SH w0 S w L) (hi : L[i]? = some ⟨g, T, cs⟩) (hA : ∀ w, (isAgg t).run P w = .ok true w) (hn : ∀ w, (Go.sizeOf t).run P w = .ok n w) (hl : cs.length = n)
    (ha : ev e x = .pointer (some ⟨g, 0, none⟩)) : Ev P e w ty (.load t x) (.agg cs.toArray) :=
  Ev.loadN cs hA (fun w => by rw [hn, hl]) ha (cellsAt_own H i hi cs 0 fun j hj => by rw [Nat.zero_add]; exact List.getElem?_eq_getElem hj)
theorem Ev.fieldAddr {s k off b o : Nat} (hp : ∀ b o w, (Instr.fieldAt s (.pointer (some ⟨b, o, none⟩)) k).run P w = .ok (.pointer (some ⟨b, o + off, none⟩)) w) (ha : ev e x = .pointer (some ⟨b, o, none⟩)) :
    Ev P e w ty (.fieldAddr s x k) (.pointer (some ⟨b, o + off, none⟩)) :=
  ⟨fun w' _ o ho _ => by unfold execOp; rw [ho]; simp only [ha, Sem.run_bind, Sem.run_pure, Result.andThen_ok, hp]⟩
theorem fieldAt_run {s k off : Nat} {fs : Array Field} {f : Field} {n : Nat} (hU : ∀ w, (underlying s).run P w = .ok (.struct fs) w) (hf : fs[k]? = some f) (hs : ∀ w, (Go.sizeOf f.type).run P w = .ok n w) (hn : (n == 0) = false) (ho : f.offset = off) :
    ∀ b o w, (Instr.fieldAt s (.pointer (some ⟨b, o, none⟩)) k).run P w = .ok (.pointer (some ⟨b, o + off, none⟩)) w := by
  intro b o w
  subst ho
  have hn' : n ≠ 0 := by simpa using hn
  simp only [Instr.fieldAt, Sem.run_bind, hU, Result.andThen_ok, hf, Instr.sureAddr, Sem.run_pure, fieldPlace, hs, if_neg hn', addr_add]
theorem Ev.indexAddr {el sz b o n cap j : Nat} {k : IntKind} {ii : Int} (hU : ∀ w, (underlying t).run P w = .ok (.slice el) w) (hs : ∀ w, (Go.sizeOf el).run P w = .ok sz w)
    (hx : ev e x = .slice (some ⟨b, o, none⟩) n cap) (hi : ev e i = .int k ii) (hj : ii = (j : Int)) (hlt : j < n) : Ev P e w ty (.indexAddr t x i) (.pointer (some ⟨b, o + j * sz, none⟩)) :=
  ⟨fun w' _ o ho _ => by
    unfold execOp; rw [ho]
    subst hj
    have h1 : (0 : Int) ≤ (j : Int) ∧ (j : Int) < (n : Int) := ⟨by omega, by omega⟩
    simp only [hx, hi, Instr.indexAt, asIntOf, Sem.run_bind, Sem.run_pure, Result.andThen_ok, hU, if_pos h1, hs, Int.toNat_natCast, addr_add]⟩
theorem Ev.indexAddr1 {el b o n cap j : Nat} {k : IntKind} {ii : Int} (hU : ∀ w, (underlying t).run P w = .ok (.slice el) w) (hs : ∀ w, (Go.sizeOf el).run P w = .ok 1 w)
    (hx : ev e x = .slice (some ⟨b, o, none⟩) n cap) (hi : ev e i = .int k ii) (hj : ii = (j : Int)) (hlt : j < n) : Ev P e w ty (.indexAddr t x i) (.pointer (some ⟨b, o + j, none⟩)) := by
  have := Ev.indexAddr (P := P) (w := w) (ty := ty) (x := x) (i := i) hU hs hx hi hj hlt
  simpa using this
theorem Ev.indexAddrA {el sz b o n j : Nat} {k : IntKind} {ii : Int} (hU : ∀ w, (underlying t).run P w = .ok (.array n el) w) (hs : ∀ w, (Go.sizeOf el).run P w = .ok sz w)
    (hx : ev e x = .pointer (some ⟨b, o, none⟩)) (hi : ev e i = .int k ii) (hj : ii = (j : Int)) (hlt : j < n) : Ev P e w ty (.indexAddr t x i) (.pointer (some ⟨b, o + j * sz, none⟩)) :=
  ⟨fun w' _ o ho _ => by
    unfold execOp; rw [ho]
    subst hj
    have h1 : (0 : Int) ≤ (j : Int) ∧ (j : Int) < (n : Int) := ⟨by omega, by omega⟩
    simp only [hx, hi, Instr.indexAt, asIntOf, Sem.run_bind, Sem.run_pure, Result.andThen_ok, hU, if_pos h1, hs, Int.toNat_natCast, addr_add, Instr.sureAddr]⟩
theorem Ev.len {el n cap : Nat} {A : Option Addr} (hU : ∀ w, (underlying t).run P w = .ok (.slice el) w) (hx : ev e x = .slice A n cap) :
    Ev P e w ty (.call { callee := .builtin .len, args := #[x], argTypes := #[t] }) (.int .i64 n) :=
  ⟨fun w' _ o ho _ => by
    unfold execOp; rw [ho]
    simp [resolve, invoke, builtin, Builtin.len_, hx, hU, goInt]⟩
theorem Ev.extract {vs : Array Value} {k : Nat} {v : Value} (hx : ev e x = .tuple vs) (hv : vs[k]? = some v) : Ev P e w ty (.extract x k) v :=
  ⟨fun w' _ o ho _ => by unfold execOp; rw [ho]; simp [hx, Instr.extract, hv]⟩
theorem Ev.nilCheckP {a : Addr} (hx : ev e x = .pointer (some a)) : Ev P e w ty (.nilCheck x) (.pointer (some a)) := ⟨fun w' _ o ho _ => by unfold execOp; rw [ho]; simp [hx]⟩
theorem Ev.nilCheckF {f : FuncId} {a b : Array Value} (hx : ev e x = .func (.func f) a b) : Ev P e w ty (.nilCheck x) (.func (.func f) a b) := ⟨fun w' _ o ho _ => by unfold execOp; rw [ho]; simp [hx]⟩
theorem Ev.not {b : Bool} (hx : ev e x = .bool b) : Ev P e w ty (.unOp .not t x) (.bool (!b)) := ⟨fun w' _ o ho _ => by unfold execOp; rw [ho]; simp [hx, Op.unary]⟩
theorem Ev.makeFunc {fn : Fn} {first caps : List Operand} : Ev P e w ty (.makeFunc fn first.toArray caps.toArray) (.func fn (first.map (ev e)).toArray (caps.map (ev e)).toArray) :=
  ⟨fun w' _ o ho _ => by unfold execOp; rw [ho]; simp [Instr.makeFunc]⟩
theorem Ev.build {parts : List (Nat × Operand)} {v : Value} (hb : ∀ w', (Instr.build t (parts.map fun p => (p.1, ev e p.2)).toArray).run P w' = .ok v w') : Ev P e w ty (.build t parts.toArray) v :=
  ⟨fun w' _ o ho _ => by unfold execOp; rw [ho]; simp only [List.map_toArray, Sem.run_bind, hb, Result.andThen_ok, Sem.run_pure]⟩
theorem Ev.bin {op : BinOp} {t' : TypeId} {k : IntKind} {a b : Int} {v : Value} (hx : ev e x = .int k a) (hy : ev e y = .int k b) (hr : ∀ w, (binOp op t (.int k a) (.int k b)).run P w = .ok v w) : Ev P e w ty (.binOp op t x y t') v :=
  ⟨fun w' _ o ho _ => by unfold execOp; rw [ho]; cases op <;> simp only [hx, hy, eqGuard, Sem.run_bind, hr, Sem.run_pure] <;> simp⟩
theorem Ev.lss {t' : TypeId} {k : IntKind} {a b : Int} (hx : ev e x = .int k a) (hy : ev e y = .int k b) : Ev P e w ty (.binOp .lss t x y t') (.bool (decide (a < b))) := Ev.bin hx hy fun w => by simp [binOp, Op.intCmp]
theorem Ev.leq {t' : TypeId} {k : IntKind} {a b : Int} (hx : ev e x = .int k a) (hy : ev e y = .int k b) : Ev P e w ty (.binOp .leq t x y t') (.bool (decide (a ≤ b))) := Ev.bin hx hy fun w => by simp [binOp, Op.intCmp]
theorem Ev.gtr {t' : TypeId} {k : IntKind} {a b : Int} (hx : ev e x = .int k a) (hy : ev e y = .int k b) : Ev P e w ty (.binOp .gtr t x y t') (.bool (decide (b < a))) := Ev.bin hx hy fun w => by simp [binOp, Op.intCmp]
theorem Ev.geq {t' : TypeId} {k : IntKind} {a b : Int} (hx : ev e x = .int k a) (hy : ev e y = .int k b) : Ev P e w ty (.binOp .geq t x y t') (.bool (decide (b ≤ a))) := Ev.bin hx hy fun w => by simp [binOp, Op.intCmp]
theorem Ev.eql {t' : TypeId} {k : IntKind} {a b : Int} (hx : ev e x = .int k a) (hy : ev e y = .int k b) : Ev P e w ty (.binOp .eql t x y t') (.bool (decide (a = b))) := Ev.bin hx hy fun w => by simp [binOp, Op.intCmp]; rfl
theorem Ev.neq {t' : TypeId} {k : IntKind} {a b : Int} (hx : ev e x = .int k a) (hy : ev e y = .int k b) : Ev P e w ty (.binOp .neq t x y t') (.bool (!decide (a = b))) := Ev.bin hx hy fun w => by simp [binOp, Op.intCmp, bne]; rfl
def fits (n : Int) : Prop := -9223372036854775808 ≤ n ∧ n ≤ 9223372036854775807
theorem wrap_fits {n : Int} (h : fits n) : IntKind.i64.wrap n = n := IntWalk.i64_in n ⟨h.1, h.2⟩
theorem Ev.add {t' : TypeId} {a b : Int} (hx : ev e x = .int .i64 a) (hy : ev e y = .int .i64 b) (h : fits (a + b)) : Ev P e w ty (.binOp .add t x y t') (.int .i64 (a + b)) := Ev.bin hx hy fun w => by simp [binOp, Op.intArith, wrap_fits h]
theorem Ev.sub {t' : TypeId} {a b : Int} (hx : ev e x = .int .i64 a) (hy : ev e y = .int .i64 b) (h : fits (a - b)) : Ev P e w ty (.binOp .sub t x y t') (.int .i64 (a - b)) := Ev.bin hx hy fun w => by simp [binOp, Op.intArith, wrap_fits h]
theorem Ev.mul {t' : TypeId} {a b : Int} (hx : ev e x = .int .i64 a) (hy : ev e y = .int .i64 b) (h : fits (a * b)) : Ev P e w ty (.binOp .mul t x y t') (.int .i64 (a * b)) := Ev.bin hx hy fun w => by simp [binOp, Op.intArith, wrap_fits h]
theorem Ev.addw {t' : TypeId} {k : IntKind} {a b : Int} (hx : ev e x = .int k a) (hy : ev e y = .int k b) : Ev P e w ty (.binOp .add t x y t') (.int k (k.wrap (a + b))) := Ev.bin hx hy fun w => by simp [binOp, Op.intArith]
theorem Ev.subw {t' : TypeId} {k : IntKind} {a b : Int} (hx : ev e x = .int k a) (hy : ev e y = .int k b) : Ev P e w ty (.binOp .sub t x y t') (.int k (k.wrap (a - b))) := Ev.bin hx hy fun w => by simp [binOp, Op.intArith]
theorem Ev.mulw {t' : TypeId} {k : IntKind} {a b : Int} (hx : ev e x = .int k a) (hy : ev e y = .int k b) : Ev P e w ty (.binOp .mul t x y t') (.int k (k.wrap (a * b))) := Ev.bin hx hy fun w => by simp [binOp, Op.intArith]
theorem Ev.quo {t' : TypeId} {a b : Int} (hx : ev e x = .int .i64 a) (hy : ev e y = .int .i64 b) (h0 : 0 ≤ a) (h1 : a ≤ 9223372036854775807) (hb : 0 < b) : Ev P e w ty (.binOp .quo t x y t') (.int .i64 (a / b)) :=
  Ev.bin hx hy fun w => by
    have hb0 : b ≠ 0 := by omega
    have e1 : a.tdiv b = a / b := Int.tdiv_eq_ediv_of_nonneg h0
    have e2 : fits (a / b) := ⟨by have := Int.ediv_nonneg h0 (Int.le_of_lt hb); omega, by have := Int.ediv_le_self b h0; omega⟩
    simp [binOp, Op.intDiv, hb0, e1, wrap_fits e2]
theorem Ev.rem {t' : TypeId} {a b : Int} (hx : ev e x = .int .i64 a) (hy : ev e y = .int .i64 b) (h0 : 0 ≤ a) (hb : 0 < b) : Ev P e w ty (.binOp .rem t x y t') (.int .i64 (a % b)) :=
  Ev.bin hx hy fun w => by
    have hb0 : b ≠ 0 := by omega
    have e1 : a.tmod b = a % b := Int.tmod_eq_emod_of_nonneg h0
    simp [binOp, Op.intDiv, hb0, e1]
theorem Ev.neg {a : Int} (hx : ev e x = .int .i64 a) (h : fits (-a)) : Ev P e w ty (.unOp .neg t x) (.int .i64 (-a)) :=
  ⟨fun w' _ o ho _ => by
    unfold execOp; rw [ho]
    simp [hx, Op.unary, Op.intArith, wrap_fits h]⟩
theorem Ev.min {k : IntKind} {a b : Int} {tys : Array TypeId} (hx : ev e x = .int k a) (hy : ev e y = .int k b) : Ev P e w ty (.call { callee := .builtin .min, args := #[x, y], argTypes := tys }) (.int k (if b < a then b else a)) :=
  ⟨fun w' _ o ho _ => by unfold execOp; rw [ho]; simp [resolve, invoke, builtin, Builtin.min_, Builtin.min2, hx, hy]⟩
theorem Ev.max {k : IntKind} {a b : Int} {tys : Array TypeId} (hx : ev e x = .int k a) (hy : ev e y = .int k b) : Ev P e w ty (.call { callee := .builtin .max, args := #[x, y], argTypes := tys }) (.int k (if a < b then b else a)) :=
  ⟨fun w' _ o ho _ => by unfold execOp; rw [ho]; simp [resolve, invoke, builtin, Builtin.max_, Builtin.max2, hx, hy]⟩
theorem Ev.conv {s d : TypeId} {k k' : IntKind} {a : Int} (hs : ∀ w, (underlying s).run P w = .ok (.int k') w) (hd : ∀ w, (underlying d).run P w = .ok (.int k) w) (hx : ev e x = .int k' a) : Ev P e w ty (.convert s d x) (.int k (k.wrap a)) :=
  ⟨fun w' _ o ho _ => by unfold execOp; rw [ho]; simp [hx, convert, hs, hd, Conv.intToInt]⟩
/-- x[:j] -/
theorem Ev.sliceTo {el n cap j : Nat} {A : Option Addr} {k : IntKind} {ii : Int} (hU : ∀ w, (underlying t).run P w = .ok (.slice el) w) (hs : ∃ sz, ∀ w, (Go.sizeOf el).run P w = .ok sz w)
    (hx : ev e x = .slice A n cap) (hi : ev e i = .int k ii) (hj : ii = (j : Int)) (hle : j ≤ cap) : Ev P e w ty (.slice t x none (some i) none) (.slice A j cap) :=
  ⟨fun w' _ o ho _ => by
    unfold execOp; rw [ho]
    obtain ⟨sz, hs⟩ := hs
    subst hj
    have h1 : (0 : Int) ≤ (j : Int) ∧ (j : Int) ≤ (cap : Int) := ⟨by omega, by omega⟩
    have h2 : Option.map (fun x : Addr => x.add 0) A = A := by cases A <;> simp [Addr.add]
    simp only [Instr.sliceAt, Instr.slice, hx, Option.map_some, Option.map_none, hi, hU, Sem.run_bind, Sem.run_pure, Result.andThen_ok, Instr.sliceBounds, Instr.sliceBound, asIntOf, if_pos h1, hs, Int.toNat_natCast]
    simp [h2]⟩
/-- x[j:] -/
theorem Ev.sliceFrom {el n cap j sz : Nat} {A : Option Addr} {k : IntKind} {ii : Int} (hU : ∀ w, (underlying t).run P w = .ok (.slice el) w) (hs : ∀ w, (Go.sizeOf el).run P w = .ok sz w)
    (hx : ev e x = .slice A n cap) (hi : ev e i = .int k ii) (hj : ii = (j : Int)) (hle : j ≤ n) : Ev P e w ty (.slice t x (some i) none none) (.slice (if cap = j then A else A.map (·.add (j * sz))) (n - j) (cap - j)) :=
  ⟨fun w' _ o ho _ => by
    unfold execOp; rw [ho]
    subst hj
    have h1 : (0 : Int) ≤ (j : Int) ∧ (j : Int) ≤ (n : Int) := ⟨by omega, by omega⟩
    simp only [Instr.sliceAt, Instr.slice, hx, Option.map_some, Option.map_none, hi, hU, Sem.run_bind, Sem.run_pure, Result.andThen_ok, Instr.sliceBounds, Instr.sliceBound, asIntOf, if_pos h1, hs, Int.toNat_natCast]⟩

/-! ### calls -/
theorem EvC.func {f : FuncId} {args : List Operand} {tys : Array TypeId} (hc : ∀ (args : Array Value) (w : World), (callFunc f args).run P w = .ok (.enter f args) w) :
    EvC P e (.call { callee := .value (.func f), args := args.toArray, argTypes := tys }) f (args.map (ev e)) :=
  ⟨fun w o ho => by
    unfold execOp; rw [ho]
    simp [resolve, ev, Deferred.ofValue, invoke, hc]⟩
theorem EvC.conv {op : Op} {f : FuncId} {args args' : List Value} (h : EvC P e op f args) (ha : args = args') : EvC P e op f args' := ha ▸ h
theorem EvC.clos {f : FuncId} {g : Operand} {first caps : List Value} {args : List Operand} {tys : Array TypeId} (hg : ev e g = .func (.func f) first.toArray caps.toArray) (hc : ∀ (args : Array Value) (w : World), (callFunc f args).run P w = .ok (.enter f args) w) :
    EvC P e (.call { callee := .value g, args := args.toArray, argTypes := tys }) f (first ++ args.map (ev e) ++ caps) :=
  ⟨fun w o ho => by
    unfold execOp; rw [ho]
    simp [resolve, hg, Deferred.ofValue, invoke, hc]⟩
end

theorem cI {e : Env} {y : Operand} {k : IntKind} {n : Int} (h : ev e y = .int k n) : (ev e y).cells = [Value.int k n].toArray := by rw [h]; rfl
theorem cB {e : Env} {y : Operand} {b : Bool} (h : ev e y = .bool b) : (ev e y).cells = [Value.bool b].toArray := by rw [h]; rfl
theorem cS {e : Env} {y : Operand} {A : Option Addr} {n c : Nat} (h : ev e y = .slice A n c) : (ev e y).cells = [Value.slice A n c].toArray := by rw [h]; rfl
theorem cP {e : Env} {y : Operand} {A : Option Addr} (h : ev e y = .pointer A) : (ev e y).cells = [Value.pointer A].toArray := by rw [h]; rfl
theorem cF {e : Env} {y : Operand} {fn : Fn} {a b : Array Value} (h : ev e y = .func fn a b) : (ev e y).cells = [Value.func fn a b].toArray := by rw [h]; rfl
theorem cA {e : Env} {y : Operand} {vs : List Value} (h : ev e y = .agg vs.toArray) : (ev e y).cells = vs.toArray := by rw [h]; rfl

/-! ### operations that change the world -/
section
variable {P : Program} {N : Nat} {ops : Array Oper} {K : Env → World → Prop} {e : Env} {w w0 : World} {S : List Nat} {L : List Blk} {rest : List Oper} {o : Oper} {t : TypeId} {x y : Operand}
theorem OPS.know {m : Md} {t : Nat} {v : Value} {l : List Oper} (h : e t = v) (hw : OPS P N m ops K l (upd e t v) w) : OPS P N m ops K l e w := by rw [upd_same h] at hw; exact hw
theorem OPS.box {d : Nat} {cs : List Value} (hg : o.guard = none) (hd : o.dst = some d) (hN : Nat.blt d N = true) (hop : o.op = .box t x) (hx : (ev e x).cells = cs.toArray) (H : SH w0 S w L)
    (h : ∀ g w', SH w0 S w' (⟨g, t, cs⟩ :: L) → OPS P N .plain ops K rest (upd e d (.pointer (some ⟨g, 0, none⟩))) w') : OPS P N .plain ops K (o :: rest) e w :=
  OPS.act (v := .pointer (some ⟨w.heap.size, 0, none⟩)) (w' := w.alloc (.cells cs.toArray t)) hg hd hN (by unfold execOp; rw [hop]; simp [Instr.box, newVar, newRow, newObj, Sem.run, hx]) (h _ _ (H.alloc t cs))
theorem OPS.alloc {d : Nat} {z : Value} {cs : List Value} (hg : o.guard = none) (hd : o.dst = some d) (hN : Nat.blt d N = true) (hop : o.op = .alloc t) (hz : ∀ w, (zeroValue t).run P w = .ok z w) (hx : z.cells = cs.toArray) (H : SH w0 S w L)
    (h : ∀ g w', SH w0 S w' (⟨g, t, cs⟩ :: L) → OPS P N .plain ops K rest (upd e d (.pointer (some ⟨g, 0, none⟩))) w') : OPS P N .plain ops K (o :: rest) e w :=
  OPS.act (v := .pointer (some ⟨w.heap.size, 0, none⟩)) (w' := w.alloc (.cells cs.toArray t)) hg hd hN (by unfold execOp; rw [hop]; simp [Instr.alloc, hz, newVar, newRow, newObj, Sem.run, hx]) (h _ _ (H.alloc t cs))
def putL : List Value → Nat → List Value → List Value
  | cs, _, [] => cs
  | cs, k, v :: vs => putL (cs.set k v) (k + 1) vs
theorem putL_length : ∀ (vs cs : List Value) (k : Nat), (putL cs k vs).length = cs.length
  | [], _, _ => rfl
  | v :: vs, cs, k => by rw [putL, putL_length vs]; simp
theorem store_run {i : Nat} : ∀ (vs : List Value) (w : World) (L : List Blk) (b : Blk) (k j : Nat), SH w0 S w L → L[i]? = some b → k + j + vs.length ≤ b.cs.length → (vs.all (·.oneCell')) = true →
    ∃ w', (storeCells ⟨b.g, k, none⟩ vs j).run P w = .ok () w' ∧ SH w0 S w' (L.set i ⟨b.g, b.T, putL b.cs (k + j) vs⟩)
  | [], w, L, b, k, j, H, hi, _, _ => ⟨w, by simp [storeCells, Sem.run_pure], by
      have hlen : i < L.length := (List.getElem?_eq_some_iff.1 hi).1
      have hgi : L[i] = b := (List.getElem?_eq_some_iff.1 hi).2
      have : L.set i ⟨b.g, b.T, putL b.cs (k + j) []⟩ = L := by
        rw [show (⟨b.g, b.T, putL b.cs (k + j) []⟩ : Blk) = L[i] from by rw [hgi]; rfl, List.set_getElem_self]
      rw [this]; exact H⟩
  | v :: vs, w, L, b, k, j, H, hi, hk, h1 => by
    simp only [List.all_cons, Bool.and_eq_true] at h1
    simp only [List.length_cons] at hk
    have hlen : i < L.length := (List.getElem?_eq_some_iff.1 hi).1
    have hb : b ∈ L := List.mem_of_getElem? hi
    have H' := H.set i hi (k + j) v
    have hi' : (L.set i ⟨b.g, b.T, b.cs.set (k + j) v⟩)[i]? = some ⟨b.g, b.T, b.cs.set (k + j) v⟩ := by simp [hlen]
    obtain ⟨w', hr, H2⟩ := store_run vs _ _ ⟨b.g, b.T, b.cs.set (k + j) v⟩ k (j + 1) H' hi' (by simp; omega) h1.2
    refine ⟨w', ?_, ?_⟩
    · have hc : w.cell? ⟨b.g, k + j, none⟩ = some (b.cs[k + j]'(by omega)) := H.ldL i hi _ (List.getElem?_eq_getElem (by omega))
      have hf := H.notFrozen hb (k + j)
      simp only [storeCells, addr_add, Sem.run_bind]
      rw [run_store P w _ v .plain h1.1]
      simp only [hc, hf]
      simpa using hr
    · rw [List.set_set] at H2
      exact H2
/-- a store of one cell or more into a known block -/
theorem OPS.store {vs : List Value} {n : Nat} {b : Blk} (i k : Nat) (hg : o.guard = none) (hd : o.dst = none) (hop : o.op = .store t x y) (hs : ∀ w, (Go.sizeOf t).run P w = .ok n w) (hx : ev e x = .pointer (some ⟨b.g, k, none⟩))
    (hv : (ev e y).cells = vs.toArray) (hn : vs.length = n) (h1 : (vs.all (·.oneCell')) = true) (H : SH w0 S w L) (hi : L[i]? = some b) (hk : k + n ≤ b.cs.length)
    (h : ∀ w', SH w0 S w' (L.set i ⟨b.g, b.T, putL b.cs k vs⟩) → OPS P N .plain ops K rest e w') : OPS P N .plain ops K (o :: rest) e w := by
  obtain ⟨w', hr, H'⟩ := store_run (P := P) vs w L b k 0 H hi (by omega) h1
  refine OPS.actn (w' := w') hg hd ?_ (h w' H')
  unfold execOp; rw [hop]
  simp only [hx, Instr.storeAt, Instr.sureAddr, Sem.run_bind, Sem.run_pure, Result.andThen_ok, storeVar, hv, hs, List.size_toArray, hn, ne_eq, not_true_eq_false, if_false]
  simp [hr]
end
end Go.W

/-
  Rules for slices that the call makes itself, for results that lie in memory, for guarded calls.
-/
set_option linter.all false
namespace Go.W
open Go.RowKit

/-! ### results that may lie in memory -/
def resVal (P : Program) (e : Env) (w : World) : ResultVar → Value → Prop
  | .tmp t, v => e t = v
  | .cell a t, v => ∃ ad, e a = .pointer (some ad) ∧ (loadVar t ad).run P w = .ok v w
def ResL (P : Program) (e : Env) (w : World) : List ResultVar → List Value → Prop
  | [], [] => True
  | r :: rs, v :: vs => resVal P e w r v ∧ ResL P e w rs vs
  | _, _ => False
def tup : List Value → Value
  | [v] => v
  | vs => .tuple vs.toArray
section
variable {P : Program} {N : Nat} {e : Env} {w w0 : World} {S : List Nat} {L : List Blk}
theorem results_mapM (tmps : Array Value) : ∀ (l : List ResultVar) (vs : List Value), ResL P (fun t => tmps.getD t undef) w l vs →
    (l.mapM (m := Sem) fun | .tmp t => pure (tmps.getD t undef) | .cell a t => do loadVar t (← asAddr (tmps.getD a undef))).run P w = .ok vs w
  | [], [], _ => by simp
  | r :: rs, v :: vs, h => by
    obtain ⟨h1, h2⟩ := h
    have ih := results_mapM tmps rs vs h2
    rw [List.mapM_cons]
    cases r with
    | tmp t =>
      have h1 : tmps.getD t undef = v := h1
      simp only [Sem.run_bind, Sem.run_pure, Result.andThen_ok, ih, h1]
    | cell a t =>
      obtain ⟨ad, h3, h4⟩ := h1
      have h3 : tmps.getD a undef = .pointer (some ad) := h3
      have hA : (asAddr (tmps.getD a undef)).run P w = .ok ad w := by rw [h3]; rfl
      simp only [Sem.run_bind, hA, Sem.run_pure, Result.andThen_ok, h4, ih]
  | [], _ :: _, h => h.elim
  | _ :: _, [], h => h.elim
theorem results_ofL {fn : Func} {l : List ResultVar} (hl : fn.results = l.toArray) {tmps : Array Value} {vs : List Value} (h : ResL P (fun t => tmps.getD t undef) w l vs) :
    (results fn tmps).run P w = .ok (tup vs) w := by
  unfold results
  rw [hl, List.mapM_toArray]
  have := results_mapM tmps l vs h
  simp only [map_eq_pure_bind, bind_assoc, pure_bind, Sem.run_bind] at this ⊢
  refine (congrArg (fun r => Result.andThen r _) this).trans ?_
  simp only [Result.andThen_ok]
  match vs with
  | [] => simp [tup]
  | [v] => simp [tup]
  | v :: u :: vs => simp [tup]
theorem Calls.ofWPc {f : FuncId} {fn : Func} {c : Code} {args : List Value} {l : List ResultVar} {R : Ending → World → Prop}
    (hf : P.funcs[f]? = some fn) (hb : fn.body = some c) (hl : fn.results = l.toArray) (hN : fn.ntmps = N) (hle : Nat.ble args.length N = true)
    (h : WP P N c (fun e w => ∃ vs, ResL P e w l vs ∧ R (.returned (tup vs)) w) NoX (fun e w => ∃ vs, ResL P e w l vs ∧ R (.returned (tup vs)) w) (envAt args) w) :
    Calls P f args.toArray w R := by
  have hle' : args.length ≤ N := by simpa using hle
  refine calls_of_wp hf hb (Code.wp_mono (fun ex a w hp => ?_) (h.run _ ?_ ?_ rfl))
  · cases ex <;> simp only [post, NoX] at hp <;> simp only [bodyPost]
    · obtain ⟨_, h2, v, h3, h4⟩ := hp
      exact ⟨h2, _, results_ofL hl h3, h4⟩
    · exact hp.2.2
    · obtain ⟨_, h2, v, h3, h4⟩ := hp
      exact ⟨h2, _, results_ofL hl h3, h4⟩
  · funext j
    simp only [envOf, envAt]
    by_cases hj : j < args.length
    · simp [hj, Array.getElem?_append]
    · simp [hj, Array.getElem?_append, Array.getElem?_replicate]
      split <;> rfl
  · simp [hN]; omega
/-- a result variable that fills a block of its own -/
theorem resCellA {t a n : Nat} (i : Nat) {g : Nat} {T : TypeId} {cs : List Value} (H : SH w0 S w L) (hi : L[i]? = some ⟨g, T, cs⟩) (hA : ∀ w, (isAgg t).run P w = .ok true w) (hn : ∀ w, (Go.sizeOf t).run P w = .ok n w) (hl : cs.length = n)
    (ha : e a = .pointer (some ⟨g, 0, none⟩)) : resVal P e w (.cell a t) (.agg cs.toArray) :=
  ⟨_, ha, by
    have hc := cellsAt_own H i hi cs 0 fun j hj => by rw [Nat.zero_add]; exact List.getElem?_eq_getElem hj
    simp only [loadVar, Sem.run_bind, hA, Result.andThen_ok, if_true, hn, ← hl, loadCells_at cs hc, Sem.run_pure]⟩
theorem resCell1 {t a : Nat} (i : Nat) {g : Nat} {T : TypeId} {v : Value} (H : SH w0 S w L) (hi : L[i]? = some ⟨g, T, [v]⟩) (hA : ∀ w, (isAgg t).run P w = .ok false w)
    (ha : e a = .pointer (some ⟨g, 0, none⟩)) : resVal P e w (.cell a t) v :=
  ⟨_, ha, by
    have hc := H.ldL i hi 0 (v := v) rfl
    simp only [loadVar, Sem.run_bind, hA, Result.andThen_ok, Bool.false_eq_true, if_false, run_load, hc]⟩
end

section
variable {P : Program} {N : Nat} {ops : Array Oper} {K : Env → World → Prop} {e : Env} {w w0 : World} {S : List Nat} {L : List Blk} {rest : List Oper} {o : Oper} {t : TypeId} {x y : Operand}
/-- a guarded call in a plain region -/
theorem OPS.gcall {d j dj : Nat} {want b : Bool} {f : FuncId} {args : List Value} {v : Value} (hg : o.guard = some (j, want)) (hj : ops[j]?.bind (·.dst) = some dj) (hb : e dj = .bool b) (hd : o.dst = some d) (hN : Nat.blt d N = true)
    (hE : b = want → EvC P e o.op f args) (hC : b = want → Calls P f args.toArray w fun e' w' => e' = .returned v ∧ Below w.heap.size w w')
    (h : ∀ w', Below w.heap.size w w' → OPS P N .plain ops K rest (upd e d (gv b want v)) w') : OPS P N .plain ops K (o :: rest) e w :=
  ⟨fun a h1 h2 h3 => by
    have hn := fun w' hb => (h w' hb).run (a.put (some d) (gv b want v)) (by rw [envOf_put _ h2 hN, h1]) (by rw [size_put]; exact h2) (by rw [defers_put]; exact h3)
    have hy := yielded_of (a := a) hj (h1 ▸ hb)
    simp only at hn ⊢
    unfold wpList
    by_cases hw : b = want
    · subst hw
      have hwt : Region.wanted o (yielded ops a.tmps) = true := by simp [Region.wanted, hg, hy]
      have hgv : gv b b v = v := by simp [gv]
      rw [hgv] at hn
      rw [if_pos hwt]
      refine .inl ?_
      unfold Oper.wp
      have hr := (hE rfl).run w o rfl
      rw [← h1, ← eval_eq] at hr
      rw [hr]
      refine (hC rfl).mono fun e' w' ⟨he, hb2⟩ => ?_
      subst he
      rw [hd]
      exact hn w' hb2
    · have hwt : Region.wanted o (yielded ops a.tmps) = false := by simp [Region.wanted, hg, hy, hw]
      have hgv : gv b want v = undef := by simp [gv, hw]
      rw [hgv] at hn
      rw [hwt, hd]; exact hn w (Below.refl _ _)⟩

/-- the same, where the contract does not lean on the guard (the contract first, so that it fixes the arguments) -/
theorem OPS.gcall0 {d j dj : Nat} {want b : Bool} {f : FuncId} {args : List Value} {v : Value} {R : Ending → World → Prop} (hC : Calls P f args.toArray w R) (hR : ∀ e' w', R e' w' → e' = .returned v ∧ Below w.heap.size w w')
    (hg : o.guard = some (j, want)) (hj : ops[j]?.bind (·.dst) = some dj) (hb : e dj = .bool b) (hd : o.dst = some d) (hN : Nat.blt d N = true)
    (hE : b = want → EvC P e o.op f args) 
    (h : ∀ w', Below w.heap.size w w' → OPS P N .plain ops K rest (upd e d (gv b want v)) w') : OPS P N .plain ops K (o :: rest) e w :=
  OPS.gcall hg hj hb hd hN hE (fun _ => hC.mono hR) h

/-! ### slices of the call's own -/
structure SlFact (P : Program) (t el sz bt : Nat) (zs : List Value) : Prop where
  und : P.underlying t = some (.slice el)
  info : ∃ i z, P.info? el = some i ∧ i.zero = some z ∧ i.size = sz ∧ i.bytes = bt ∧ z.cells = zs.toArray
  len : zs.length = sz
  pos : 0 < sz
theorem SlFact.undRun {el sz bt : Nat} {zs : List Value} (h : SlFact P t el sz bt zs) (w : World) : (underlying t).run P w = .ok (.slice el) w := run_underlying h.und w
theorem SlFact.mk' {el sz bt : Nat} {z : Value} {zs : List Value} (hu : P.underlying t = some (.slice el)) (hi : (P.info? el).map (fun i => (i.zero, i.size, i.bytes)) = some (some z, sz, bt)) (hz : z.cells = zs.toArray) (hl : zs.length = sz) (hp : 0 < sz) : SlFact P t el sz bt zs := by
  obtain ⟨i, h1, h2, h3, h4⟩ := info_parts hi
  exact ⟨hu, ⟨i, z, h1, h2, h3, h4, hz⟩, hl, hp⟩
def mkL (n : Nat) (zs : List Value) : List Value := (List.replicate n zs).flatten
theorem mkL_length (n : Nat) (zs : List Value) : (mkL n zs).length = n * zs.length := by simp [mkL]
theorem mkL_one (n : Nat) (z : Value) : mkL n [z] = List.replicate n z := by
  induction n with
  | zero => rfl
  | succ n ih => simp [mkL, List.replicate_succ] at ih ⊢
theorem mkL_get (zs : List Value) : ∀ (n i : Nat), i < n * zs.length → (mkL n zs)[i]? = zs[i % zs.length]?
  | 0, i, h => by simp at h
  | n + 1, i, h => by
    have e : mkL (n + 1) zs = zs ++ mkL n zs := by simp [mkL, List.replicate_succ]
    rw [e]
    by_cases hi : i < zs.length
    · rw [List.getElem?_append_left hi, Nat.mod_eq_of_lt hi]
    · have hi' : zs.length ≤ i := by omega
      rw [List.getElem?_append_right hi', mkL_get zs n (i - zs.length) (by rw [Nat.succ_mul] at h; omega), Nat.mod_eq_sub_mod hi']
theorem mkCells {zs : List Value} (n : Nat) (h : 0 < zs.length) : ((Array.range (n * zs.length)).map fun i => zs.toArray[i % zs.toArray.size]!) = (mkL n zs).toArray := by
  apply Array.ext_getElem?
  intro i
  simp only [List.getElem?_toArray, List.size_toArray]
  by_cases hi : i < n * zs.length
  · rw [mkL_get zs n i hi]
    have hm := Nat.mod_lt i h
    simp [hi, hm]
  · rw [Array.getElem?_eq_none (by simp; omega), List.getElem?_eq_none (by rw [mkL_length]; omega)]
theorem run_makeSlice_own {el sz bt : Nat} {zs : List Value} (hf : SlFact P t el sz bt zs) (m : Nat) (k k' : IntKind) (hb : bt * m ≤ 140737488355328) (hm : m ≤ 9223372036854775807) (w : World) :
    (Instr.makeSlice t (.int k (m : Int)) (.int k' (m : Int))).run P w = .ok (.slice (some ⟨w.heap.size, 0, none⟩) m m) (w.alloc (.cells (mkL m zs).toArray el)) := by
  obtain ⟨i, z, h1, h2, h3, h4, h5⟩ := hf.info
  have hw : IntKind.i64.wrap (m : Int) = m := IntWalk.i64_in _ ⟨by omega, by omega⟩
  have ht : (typeInfo el).run P w = .ok i w := by unfold typeInfo program; simp only [Sem.run_bind, Sem.run, Result.andThen_ok, h1, Sem.run_pure]
  have hs : (Go.sizeOf el).run P w = .ok sz w := by unfold Go.sizeOf; simp only [Sem.run_bind, ht, Result.andThen_ok, h3, Sem.run_pure]
  have hz : (zeroValue el).run P w = .ok z w := by unfold zeroValue; simp only [Sem.run_bind, ht, Result.andThen_ok, h2, Sem.run_pure]
  have c1 : ((bt : Int) * (m : Int) > 2 ^ 48) = False := by
    have : ((bt * m : Nat) : Int) ≤ 140737488355328 := Int.ofNat_le.2 hb
    rw [Int.natCast_mul] at this
    refine eq_false fun h => ?_
    have h : (2:Int) ^ 48 < (bt : Int) * (m : Int) := h
    have : (2:Int) ^ 48 = 281474976710656 := by decide
    omega
  have c2 : ((m : Int) < 0) = False := by simp
  have e1 : (Array.map (fun i => (z.cells)[i % z.cells.size]!) (Array.range (m * sz))) = (mkL m zs).toArray := by
    rw [h5, ← hf.len]; exact mkCells m (by rw [hf.len]; exact hf.pos)
  simp only [Instr.makeSlice, Sem.run_bind, run_underlying hf.und, Result.andThen_ok, asInt, asIntOf, Sem.run_pure, ht, h4, hw, c1, c2]
  simp only [decide_false, Bool.or_false, Int.lt_irrefl, gt_iff_lt, Bool.false_eq_true, if_false, askRoom]
  split <;> simp only [mark, Sem.run_pure, Sem.run, Result.andThen_ok, hs, Int.toNat_natCast, Sem.run_bind]
  all_goals
    by_cases hn : m * sz = 0
    · have hm0 : m = 0 := by
        rcases Nat.mul_eq_zero.1 hn with h | h
        · exact h
        · have := hf.pos; omega
      subst hm0
      simp [newRow, newObj, Sem.run, mkL]
      congr 2
      apply Array.ext_getElem?; intro i; simp
    · simp [hn, hz, newRow, newObj, Sem.run, e1]
theorem OPS.makeSlice {d el sz bt m : Nat} {n : Int} {k k' : IntKind} {zs : List Value} (hg : o.guard = none) (hd : o.dst = some d) (hN : Nat.blt d N = true) (hop : o.op = .makeSlice t x y) (hf : SlFact P t el sz bt zs)
    (hx : ev e x = .int k n) (hy : ev e y = .int k' n) (hn : n = (m : Int)) (hb : bt * m ≤ 140737488355328) (hm : m ≤ 9223372036854775807) (H : SH w0 S w L)
    (h : ∀ g w', SH w0 S w' (⟨g, el, mkL m zs⟩ :: L) → OPS P N .plain ops K rest (upd e d (.slice (some ⟨g, 0, none⟩) m m)) w') : OPS P N .plain ops K (o :: rest) e w := by
  subst hn
  refine OPS.act (v := .slice (some ⟨w.heap.size, 0, none⟩) m m) (w' := w.alloc (.cells (mkL m zs).toArray el)) hg hd hN ?_ (h _ _ (H.alloc _ _))
  unfold execOp; rw [hop]
  simp only [hx, hy, Sem.run_bind, run_makeSlice_own hf m k k' hb hm w, Result.andThen_ok, Sem.run_pure]
/-- a literal slice -/
theorem OPS.buildSlice {d el n : Nat} {cs : List Value} {parts : List (Nat × Operand)} (hg : o.guard = none) (hd : o.dst = some d) (hN : Nat.blt d N = true) (hop : o.op = .buildSlice t n parts.toArray)
    (hr : ∀ w, (Instr.buildSlice t n (parts.map fun p => (p.1, ev e p.2)).toArray).run P w = .ok (.slice (some ⟨w.heap.size, 0, none⟩) n n) (w.alloc (.cells cs.toArray el))) (H : SH w0 S w L)
    (h : ∀ g w', SH w0 S w' (⟨g, el, cs⟩ :: L) → OPS P N .plain ops K rest (upd e d (.slice (some ⟨g, 0, none⟩) n n)) w') : OPS P N .plain ops K (o :: rest) e w := by
  refine OPS.act (v := .slice (some ⟨w.heap.size, 0, none⟩) n n) (w' := w.alloc (.cells cs.toArray el)) hg hd hN ?_ (h _ _ (H.alloc _ _))
  unfold execOp; rw [hop]
  simp only [List.map_toArray, Sem.run_bind, hr, Result.andThen_ok, Sem.run_pure]
theorem src_own (H : SH w0 S w L) (i : Nat) {g : Nat} {T : TypeId} {cs : List Value} (hi : L[i]? = some ⟨g, T, cs⟩) : ∃ b o, some (⟨g, 0, none⟩ : Addr) = some ⟨b, o, none⟩ ∧ cellsAt w b o cs :=
  ⟨g, 0, rfl, cellsAt_own H i hi cs 0 fun j hj => by rw [Nat.zero_add]; exact List.getElem?_eq_getElem hj⟩
/-- a growing slice of the call's own: nothing yet (Lo = []), or one block -/
structure OwnS (A : Option Addr) (cap n : Nat) (xs : List Value) (el sz : Nat) (Lo : List Blk) : Prop where
  len : xs.length = n * sz
  form : (A = none ∧ n = 0 ∧ cap = 0 ∧ Lo = []) ∨ ∃ g sp, A = some ⟨g, 0, none⟩ ∧ Lo = [⟨g, el, xs ++ sp⟩] ∧ n ≤ cap ∧ cap ≤ maxLen ∧ (xs ++ sp).length = cap * sz
theorem OwnS.nil {el sz : Nat} : OwnS none 0 0 [] el sz [] := ⟨by simp, .inl ⟨rfl, rfl, rfl, rfl⟩⟩
theorem OwnS.toOwns {A : Option Addr} {cap n el sz : Nat} {xs : List Value} {Lo R : List Blk} (h : OwnS A cap n xs el sz Lo) (H : SH w0 S w (R ++ Lo)) : w.ownsRow 0 el sz (.slice A n cap) n xs := by
  refine ⟨h.len, ?_⟩
  rcases h.form with ⟨rfl, rfl, rfl, _⟩ | ⟨g, sp, rfl, rfl, h1, h2, h3⟩
  · exact .inl ⟨rfl, rfl⟩
  · have := H.own ⟨g, el, xs ++ sp⟩ (by simp)
    exact .inr ⟨g, cap, _, rfl, Nat.zero_le _, this, h1, h2, by simpa using h3, by simp [← h.len]⟩
theorem SH.perm {L' : List Blk} (H : SH w0 S w L) (hp : L.Perm L') : SH w0 S w L' :=
  ⟨H.os, H.tape, H.output, H.size, H.low, fun b hb => H.own b (hp.mem_iff.2 hb), fun b hb => H.may b (hp.mem_iff.2 hb), (hp.map _).nodup_iff.1 H.nodup⟩
/-- 's = append(s, x...)' onto a growing slice -/
theorem OPS.append {d el sz bt n m cap cx : Nat} {ty2 : Array TypeId} {A Ax : Option Addr} {zs xs news : List Value} {Lo R : List Blk} (hg : o.guard = none) (hd : o.dst = some d) (hN : Nat.blt d N = true)
    (hop : o.op = .call { callee := .builtin .append, args := #[x, y], argTypes := ty2 }) (hty : ty2 = #[t, t]) (hf : SlFact P t el sz bt zs)
    (hx : ev e x = .slice A n cap) (hy : ev e y = .slice Ax m cx) (hO : OwnS A cap n xs el sz Lo) (hl : news.length = m * sz) (hs : ∃ b o, Ax = some ⟨b, o, none⟩ ∧ cellsAt w b o news) (h1 : (news.all (·.oneCell')) = true)
    (hbd : (n + m) * bt ≤ 140737488355328) (hbd2 : n + m ≤ maxLen) (H : SH w0 S w L) (hp : L.Perm (R ++ Lo))
    (h : ∀ A' cap' Lo' w', OwnS A' cap' (n + m) (xs ++ news) el sz Lo' → SH w0 S w' (R ++ Lo') → OPS P N .plain ops K rest (upd e d (.slice A' (n + m) cap')) w') : OPS P N .plain ops K (o :: rest) e w := by
  have H' := H.perm hp
  have hown := hO.toOwns H'
  obtain ⟨i, z, i1, i2, i3, i4, i5⟩ := hf.info
  obtain ⟨b, of, rfl, hc⟩ := hs
  have hcl : ∀ j u, news[j]? = some u → w.cell? ((⟨b, of, none⟩ : Addr).add j) = some u := by
    intro j u hj
    rw [addr_add]
    have : ∀ (l : List Value) (o j : Nat), cellsAt w b o l → ∀ u, l[j]? = some u → w.cell? ⟨b, o + j, none⟩ = some u := by
      intro l
      induction l with
      | nil => intro o j _ u hu; simp at hu
      | cons v l ih =>
        intro o j hc u hu
        cases j with
        | zero => simp at hu; subst hu; exact hc.1
        | succ j => have := ih (o + 1) j hc.2 u (by simpa using hu); rw [show o + (j + 1) = o + 1 + j by omega]; exact this
    exact this news of j hc u hj
  obtain ⟨v', w', hrun, hown', hgr, _, hat⟩ := run_append_own_at (P := P) w 0 t o.type el i z sz bt hf.und i1 i2 i3 i4 (by rw [i5]; simpa using hf.len) hf.pos (.slice A n cap) n xs hown ⟨b, of, none⟩ m cx news hl hcl
    (fun u hu => by simpa using List.all_eq_true.1 h1 u hu) hbd2 hbd (Nat.zero_le _)
  -- the new value's form
  have key : ∃ A' cap' Lo', v' = .slice A' (n + m) cap' ∧ OwnS A' cap' (n + m) (xs ++ news) el sz Lo' ∧ SH w0 S w' (R ++ Lo') := by
    have hR : ∀ c ∈ R, some c.g ≠ (Value.slice A n cap).ownBlock := by
      intro c hcR
      rcases hO.form with ⟨rfl, _, _, _⟩ | ⟨g, sp, rfl, rfl, _⟩
      · simp [Value.ownBlock]
      · simp only [Value.ownBlock, ne_eq, Option.some.injEq]
        intro he
        have hn := H'.nodup
        rw [List.map_append, List.nodup_append] at hn
        exact hn.2.2 c.g (List.mem_map_of_mem hcR) g (by simp) he
    have hlow : ∀ k, k < w0.heap.size → k ∉ S → w'.heap[k]? = w0.heap[k]? := by
      intro k hk hS
      rw [hgr.block k (Nat.lt_of_lt_of_le hk H'.size) ?_]
      · exact H'.low k hk hS
      · rcases hO.form with ⟨rfl, _, _, _⟩ | ⟨g, sp, rfl, rfl, _⟩
        · simp [Value.ownBlock]
        · simp only [Value.ownBlock, ne_eq, Option.some.injEq]
          intro he
          rcases H'.may ⟨g, el, xs ++ sp⟩ (by simp) with hh | hh
          · have hh : w0.heap.size ≤ g := hh
            omega
          · exact hS (he ▸ hh)
    have hRown : ∀ c ∈ R, w'.heap[c.g]? = some (.cells c.cs.toArray c.T (0, 0)) := fun c hcR =>
      (hgr.block c.g (H'.lt (List.mem_append_left _ hcR)) (hR c hcR)).trans (H'.own c (List.mem_append_left _ hcR))
    rcases hown'.2 with ⟨rfl, h0⟩ | ⟨g, cap', cur, rfl, _, hblk, hle, hmx, hsz, htk⟩
    · refine ⟨none, 0, [], by rw [h0], ⟨hown'.1, .inl ⟨rfl, h0, rfl, rfl⟩⟩, ?_⟩
      exact ⟨hgr.os.trans H'.os, hgr.tape.trans H'.tape, hgr.output.trans H'.output, Nat.le_trans H'.size hgr.size, hlow, fun c hc => hRown c (by simpa using hc), fun c hc => H'.may c (by simp at hc; simp [hc]), by
        have := H'.nodup; rw [List.map_append, List.nodup_append] at this; simpa using this.1⟩
    · have hgm : w0.heap.size ≤ g ∨ g ∈ S := by
        rcases hat with ha | ha
        · simp only [Value.ownBlock] at ha
          rcases hO.form with ⟨rfl, _, _, _⟩ | ⟨g', sp, rfl, rfl, _⟩
          · simp at ha
          · simp at ha; subst ha; exact H'.may ⟨g, el, xs ++ sp⟩ (by simp)
        · simp only [Value.ownBlock, Option.some.injEq] at ha
          have hh := H'.size
          exact .inl (by rw [ha]; exact hh)
      have hgR : ∀ c ∈ R, c.g ≠ g := by
        intro c hcR he
        rcases hat with ha | ha
        · exact hR c hcR (by rw [← ha, he]; rfl)
        · simp only [Value.ownBlock, Option.some.injEq] at ha
          have := H'.lt (List.mem_append_left _ hcR); omega
      have hcur : cur = ((xs ++ news) ++ cur.toList.drop ((n + m) * sz)).toArray := by
        rw [← htk, List.take_append_drop]
      refine ⟨some ⟨g, 0, none⟩, cap', [⟨g, el, (xs ++ news) ++ cur.toList.drop ((n + m) * sz)⟩], rfl, ⟨hown'.1, .inr ⟨g, _, rfl, rfl, hle, hmx, ?_⟩⟩, ?_⟩
      · have := congrArg Array.size hcur
        simp only [List.size_toArray] at this
        rw [← this]; exact hsz
      · refine ⟨hgr.os.trans H'.os, hgr.tape.trans H'.tape, hgr.output.trans H'.output, Nat.le_trans H'.size hgr.size, hlow, fun c hc => ?_, fun c hc => ?_, ?_⟩
        · rcases List.mem_append.1 hc with hc | hc
          · exact hRown c hc
          · simp at hc; subst hc
            have h2 := hcur
            rw [List.append_assoc] at h2
            simp only [List.append_assoc]
            rw [← h2]; exact hblk
        · rcases List.mem_append.1 hc with hc | hc
          · exact H'.may c (List.mem_append_left _ hc)
          · simp at hc; subst hc; exact hgm
        · have hn := H'.nodup
          rw [List.map_append, List.nodup_append] at hn
          rw [List.map_append, List.nodup_append]
          refine ⟨hn.1, by simp, fun a ha b hb => ?_⟩
          simp at hb; subst hb
          obtain ⟨c, hc, rfl⟩ := List.mem_map.1 ha
          exact hgR c hc
  obtain ⟨A', cap', Lo', rfl, hO', H2⟩ := key
  refine OPS.act (v := .slice A' (n + m) cap') (w' := w') hg hd hN ?_ (h A' cap' Lo' w' hO' H2)
  unfold execOp; rw [hop, hty]
  simp only [resolve, Sem.run_bind, Sem.run_pure, Result.andThen_ok, invoke, builtin]
  simp [hx, hy, hrun]
end
end Go.W

/-
  The types and functions of this seat, as the walk wants them (written by a program from the translation).
-/
set_option linter.all false
namespace Go.Proofs.Ytchjbjplddhknaa
open Go Go.W

def aggT : Nat → Option Bool
  | 2 => some false
  | 3 => some false
  | 4 => some false
  | 5 => some false
  | 6 => some false
  | 21 => some false
  | 22 => some false
  | 23 => some true
  | 24 => some true
  | 25 => some false
  | 26 => some false
  | 29 => some false
  | 30 => some true
  | 34 => some false
  | 36 => some false
  | 37 => some false
  | 41 => some true
  | 42 => some true
  | 45 => some true
  | 46 => some true
  | 47 => some true
  | 48 => some true
  | 55 => some true
  | 56 => some true
  | 57 => some false
  | 59 => some false
  | 60 => some true
  | 61 => some true
  | 63 => some false
  | 64 => some false
  | 67 => some false
  | 68 => some false
  | 69 => some true
  | 70 => some true
  | 71 => some false
  | 74 => some false
  | 77 => some true
  | 78 => some true
  | 81 => some false
  | 92 => some true
  | 93 => some true
  | 95 => some false
  | 99 => some false
  | 100 => some false
  | 103 => some true
  | 104 => some true
  | 107 => some true
  | 109 => some false
  | 117 => some false
  | _ => none

set_option maxHeartbeats 2000000 in
theorem agg_run {t : Nat} {v : _} (h : aggT t = some v) : ∀ w, (isAgg t).run Try.prog w = .ok v w := by
  unfold aggT at h
  split at h <;> (try cases h)
  · exact Try.isAgg2
  · exact Try.isAgg3
  · exact Try.isAgg4
  · exact Try.isAgg5
  · exact Try.isAgg6
  · exact Try.isAgg21
  · exact Try.isAgg22
  · exact Try.isAgg23
  · exact Try.isAgg24
  · exact Try.isAgg25
  · exact Try.isAgg26
  · exact Try.isAgg29
  · exact Try.isAgg30
  · exact Try.isAgg34
  · exact Try.isAgg36
  · exact Try.isAgg37
  · exact Try.isAgg41
  · exact Try.isAgg42
  · exact Try.isAgg45
  · exact Try.isAgg46
  · exact Try.isAgg47
  · exact Try.isAgg48
  · exact Try.isAgg55
  · exact Try.isAgg56
  · exact Try.isAgg57
  · exact Try.isAgg59
  · exact Try.isAgg60
  · exact Try.isAgg61
  · exact Try.isAgg63
  · exact Try.isAgg64
  · exact Try.isAgg67
  · exact Try.isAgg68
  · exact Try.isAgg69
  · exact Try.isAgg70
  · exact Try.isAgg71
  · exact Try.isAgg74
  · exact Try.isAgg77
  · exact Try.isAgg78
  · exact Try.isAgg81
  · exact Try.isAgg92
  · exact Try.isAgg93
  · exact Try.isAgg95
  · exact Try.isAgg99
  · exact Try.isAgg100
  · exact Try.isAgg103
  · exact Try.isAgg104
  · exact Try.isAgg107
  · exact Try.isAgg109
  · exact Try.isAgg117

def sizeT : Nat → Option Nat
  | 2 => some 1
  | 3 => some 1
  | 4 => some 1
  | 5 => some 1
  | 6 => some 1
  | 21 => some 1
  | 22 => some 1
  | 23 => some 5
  | 24 => some 5
  | 25 => some 1
  | 26 => some 1
  | 29 => some 1
  | 30 => some 3
  | 34 => some 1
  | 36 => some 1
  | 37 => some 1
  | 41 => some 4
  | 42 => some 4
  | 45 => some 2
  | 46 => some 2
  | 47 => some 6
  | 48 => some 6
  | 55 => some 9
  | 56 => some 9
  | 57 => some 1
  | 59 => some 1
  | 60 => some 2
  | 61 => some 2
  | 63 => some 1
  | 64 => some 1
  | 67 => some 1
  | 68 => some 1
  | 69 => some 8
  | 70 => some 8
  | 71 => some 1
  | 74 => some 1
  | 77 => some 2
  | 78 => some 2
  | 81 => some 1
  | 92 => some 2
  | 93 => some 2
  | 95 => some 1
  | 99 => some 1
  | 100 => some 1
  | 103 => some 3
  | 104 => some 3
  | 107 => some 9
  | 109 => some 1
  | 117 => some 1
  | _ => none

set_option maxHeartbeats 2000000 in
theorem size_run {t : Nat} {v : _} (h : sizeT t = some v) : ∀ w, (Go.sizeOf t).run Try.prog w = .ok v w := by
  unfold sizeT at h
  split at h <;> (try cases h)
  · exact Try.sizeOf2
  · exact Try.sizeOf3
  · exact Try.sizeOf4
  · exact Try.sizeOf5
  · exact Try.sizeOf6
  · exact Try.sizeOf21
  · exact Try.sizeOf22
  · exact Try.sizeOf23
  · exact Try.sizeOf24
  · exact Try.sizeOf25
  · exact Try.sizeOf26
  · exact Try.sizeOf29
  · exact Try.sizeOf30
  · exact Try.sizeOf34
  · exact Try.sizeOf36
  · exact Try.sizeOf37
  · exact Try.sizeOf41
  · exact Try.sizeOf42
  · exact Try.sizeOf45
  · exact Try.sizeOf46
  · exact Try.sizeOf47
  · exact Try.sizeOf48
  · exact Try.sizeOf55
  · exact Try.sizeOf56
  · exact Try.sizeOf57
  · exact Try.sizeOf59
  · exact Try.sizeOf60
  · exact Try.sizeOf61
  · exact Try.sizeOf63
  · exact Try.sizeOf64
  · exact Try.sizeOf67
  · exact Try.sizeOf68
  · exact Try.sizeOf69
  · exact Try.sizeOf70
  · exact Try.sizeOf71
  · exact Try.sizeOf74
  · exact Try.sizeOf77
  · exact Try.sizeOf78
  · exact Try.sizeOf81
  · exact Try.sizeOf92
  · exact Try.sizeOf93
  · exact Try.sizeOf95
  · exact Try.sizeOf99
  · exact Try.sizeOf100
  · exact Try.sizeOf103
  · exact Try.sizeOf104
  · exact Try.sizeOf107
  · exact Try.sizeOf109
  · exact Try.sizeOf117

def elT : Nat → Option Nat
  | 22 => some 3
  | 25 => some 56
  | 36 => some 42
  | 37 => some 48
  | _ => none

set_option maxHeartbeats 2000000 in
theorem el_run {t : Nat} {v : _} (h : elT t = some v) : ∀ w, (underlying t).run Try.prog w = .ok (.slice v) w := by
  unfold elT at h
  split at h <;> (try cases h)
  · exact Try.runUnderlying22
  · exact Try.runUnderlying25
  · exact Try.runUnderlying36
  · exact Try.runUnderlying37

def ikT : Nat → Option IntKind
  | 2 => some .i64
  | 3 => some .i64
  | 5 => some .u8
  | 6 => some .u8
  | 21 => some .i32
  | 26 => some .u64
  | 34 => some .i64
  | 57 => some .u64
  | 109 => some .i64
  | 117 => some .u32
  | _ => none

set_option maxHeartbeats 2000000 in
theorem ik_run {t : Nat} {v : _} (h : ikT t = some v) : ∀ w, (underlying t).run Try.prog w = .ok (.int v) w := by
  unfold ikT at h
  split at h <;> (try cases h)
  · exact Try.runUnderlying2
  · exact Try.runUnderlying3
  · exact Try.runUnderlying5
  · exact Try.runUnderlying6
  · exact Try.runUnderlying21
  · exact Try.runUnderlying26
  · exact Try.runUnderlying34
  · exact Try.runUnderlying57
  · exact Try.runUnderlying109
  · exact Try.runUnderlying117

def arrT : Nat → Option (Nat × Nat)
  | 30 => some (3, 29)
  | 107 => some (9, 3)
  | _ => none

set_option maxHeartbeats 2000000 in
theorem arr_run {t : Nat} {v : _} (h : arrT t = some v) : ∀ w, (underlying t).run Try.prog w = .ok (.array v.1 v.2) w := by
  unfold arrT at h
  split at h <;> (try cases h)
  · exact Try.runUnderlying30
  · exact Try.runUnderlying107

def zeroT : Nat → Option Value
  | 2 => some (.int .i64 0)
  | 3 => some (.int .i64 0)
  | 4 => some (.bool false)
  | 5 => some (.int .u8 0)
  | 6 => some (.int .u8 0)
  | 21 => some (.int .i32 0)
  | 22 => some (.slice none 0 0)
  | 23 => some (.agg #[.int .i64 0, .int .i64 0, .int .i64 0, .slice none 0 0, .slice none 0 0])
  | 24 => some (.agg #[.int .i64 0, .int .i64 0, .int .i64 0, .slice none 0 0, .slice none 0 0])
  | 25 => some (.slice none 0 0)
  | 26 => some (.int .u64 0)
  | 29 => some (.pointer none)
  | 30 => some (.agg #[.pointer none, .pointer none, .pointer none])
  | 34 => some (.int .i64 0)
  | 36 => some (.slice none 0 0)
  | 37 => some (.slice none 0 0)
  | 41 => some (.agg #[.int .i64 0, .int .i64 0, .int .i64 0, .bool false])
  | 42 => some (.agg #[.int .i64 0, .int .i64 0, .int .i64 0, .bool false])
  | 45 => some (.agg #[.int .i64 0, .int .i64 0])
  | 46 => some (.agg #[.int .i64 0, .int .i64 0])
  | 47 => some (.agg #[.int .i64 0, .int .i64 0, .int .i64 0, .int .i64 0, .int .i64 0, .int .i64 0])
  | 48 => some (.agg #[.int .i64 0, .int .i64 0, .int .i64 0, .int .i64 0, .int .i64 0, .int .i64 0])
  | 55 => some (.agg #[.int .i64 0, .int .i64 0, .int .i64 0, .int .i64 0, .int .i64 0, .int .i64 0, .int .i64 0, .int .i64 0, .int .i64 0])
  | 56 => some (.agg #[.int .i64 0, .int .i64 0, .int .i64 0, .int .i64 0, .int .i64 0, .int .i64 0, .int .i64 0, .int .i64 0, .int .i64 0])
  | 57 => some (.int .u64 0)
  | 59 => some (.map none)
  | 60 => some (.agg #[.int .i64 0, .map none])
  | 61 => some (.agg #[.int .i64 0, .map none])
  | 63 => some (.nilFunc)
  | 64 => some (.pointer none)
  | 67 => some (.map none)
  | 68 => some (.map none)
  | 69 => some (.agg #[.int .i64 0, .int .i64 0, .int .i64 0, .slice none 0 0, .slice none 0 0, .slice none 0 0, .map none, .map none])
  | 70 => some (.agg #[.int .i64 0, .int .i64 0, .int .i64 0, .slice none 0 0, .slice none 0 0, .slice none 0 0, .map none, .map none])
  | 71 => some (.nilFunc)
  | 74 => some (.nilFunc)
  | 77 => some (.agg #[.int .i64 0, .int .i64 0])
  | 78 => some (.agg #[.int .i64 0, .int .i64 0])
  | 81 => some (.nilFunc)
  | 92 => some (.agg #[.int .i64 0, .int .i64 0])
  | 93 => some (.agg #[.int .i64 0, .int .i64 0])
  | 95 => some (.nilFunc)
  | 99 => some (.pointer none)
  | 100 => some (.nilFunc)
  | 103 => some (.agg #[.int .i64 0, .int .i64 0, .bool false])
  | 104 => some (.agg #[.int .i64 0, .int .i64 0, .bool false])
  | 107 => some (.agg #[.int .i64 0, .int .i64 0, .int .i64 0, .int .i64 0, .int .i64 0, .int .i64 0, .int .i64 0, .int .i64 0, .int .i64 0])
  | 109 => some (.int .i64 0)
  | 117 => some (.int .u32 0)
  | _ => none

set_option maxHeartbeats 2000000 in
theorem zero_run {t : Nat} {v : _} (h : zeroT t = some v) : ∀ w, (zeroValue t).run Try.prog w = .ok v w := by
  unfold zeroT at h
  split at h <;> (try cases h)
  · exact Try.zeroValue2
  · exact Try.zeroValue3
  · exact Try.zeroValue4
  · exact Try.zeroValue5
  · exact Try.zeroValue6
  · exact Try.zeroValue21
  · exact Try.zeroValue22
  · exact Try.zeroValue23
  · exact Try.zeroValue24
  · exact Try.zeroValue25
  · exact Try.zeroValue26
  · exact Try.zeroValue29
  · exact Try.zeroValue30
  · exact Try.zeroValue34
  · exact Try.zeroValue36
  · exact Try.zeroValue37
  · exact Try.zeroValue41
  · exact Try.zeroValue42
  · exact Try.zeroValue45
  · exact Try.zeroValue46
  · exact Try.zeroValue47
  · exact Try.zeroValue48
  · exact Try.zeroValue55
  · exact Try.zeroValue56
  · exact Try.zeroValue57
  · exact Try.zeroValue59
  · exact Try.zeroValue60
  · exact Try.zeroValue61
  · exact Try.zeroValue63
  · exact Try.zeroValue64
  · exact Try.zeroValue67
  · exact Try.zeroValue68
  · exact Try.zeroValue69
  · exact Try.zeroValue70
  · exact Try.zeroValue71
  · exact Try.zeroValue74
  · exact Try.zeroValue77
  · exact Try.zeroValue78
  · exact Try.zeroValue81
  · exact Try.zeroValue92
  · exact Try.zeroValue93
  · exact Try.zeroValue95
  · exact Try.zeroValue99
  · exact Try.zeroValue100
  · exact Try.zeroValue103
  · exact Try.zeroValue104
  · exact Try.zeroValue107
  · exact Try.zeroValue109
  · exact Try.zeroValue117

def bytT : Nat → Option (Nat × Nat)
  | 2 => some (1, 8)
  | 3 => some (1, 8)
  | 4 => some (1, 1)
  | 5 => some (1, 1)
  | 6 => some (1, 1)
  | 21 => some (1, 4)
  | 22 => some (1, 24)
  | 23 => some (5, 72)
  | 24 => some (5, 72)
  | 25 => some (1, 24)
  | 26 => some (1, 8)
  | 29 => some (1, 8)
  | 30 => some (3, 24)
  | 34 => some (1, 8)
  | 36 => some (1, 24)
  | 37 => some (1, 24)
  | 41 => some (4, 32)
  | 42 => some (4, 32)
  | 45 => some (2, 16)
  | 46 => some (2, 16)
  | 47 => some (6, 48)
  | 48 => some (6, 48)
  | 55 => some (9, 72)
  | 56 => some (9, 72)
  | 57 => some (1, 8)
  | 59 => some (1, 8)
  | 60 => some (2, 16)
  | 61 => some (2, 16)
  | 63 => some (1, 8)
  | 64 => some (1, 8)
  | 67 => some (1, 8)
  | 68 => some (1, 8)
  | 69 => some (8, 112)
  | 70 => some (8, 112)
  | 71 => some (1, 8)
  | 74 => some (1, 8)
  | 77 => some (2, 16)
  | 78 => some (2, 16)
  | 81 => some (1, 8)
  | 92 => some (2, 16)
  | 93 => some (2, 16)
  | 95 => some (1, 8)
  | 99 => some (1, 8)
  | 100 => some (1, 8)
  | 103 => some (3, 24)
  | 104 => some (3, 24)
  | 107 => some (9, 72)
  | 109 => some (1, 8)
  | 117 => some (1, 4)
  | _ => none

set_option maxHeartbeats 2000000 in
theorem byt_run {t : Nat} {v : _} (h : bytT t = some v) : ∃ i, (∀ w, (typeInfo t).run Try.prog w = .ok i w) ∧ i.size = v.1 ∧ i.bytes = v.2 := by
  unfold bytT at h
  split at h <;> (try cases h)
  · exact ⟨_, Try.typeInfo2, rfl, rfl⟩
  · exact ⟨_, Try.typeInfo3, rfl, rfl⟩
  · exact ⟨_, Try.typeInfo4, rfl, rfl⟩
  · exact ⟨_, Try.typeInfo5, rfl, rfl⟩
  · exact ⟨_, Try.typeInfo6, rfl, rfl⟩
  · exact ⟨_, Try.typeInfo21, rfl, rfl⟩
  · exact ⟨_, Try.typeInfo22, rfl, rfl⟩
  · exact ⟨_, Try.typeInfo23, rfl, rfl⟩
  · exact ⟨_, Try.typeInfo24, rfl, rfl⟩
  · exact ⟨_, Try.typeInfo25, rfl, rfl⟩
  · exact ⟨_, Try.typeInfo26, rfl, rfl⟩
  · exact ⟨_, Try.typeInfo29, rfl, rfl⟩
  · exact ⟨_, Try.typeInfo30, rfl, rfl⟩
  · exact ⟨_, Try.typeInfo34, rfl, rfl⟩
  · exact ⟨_, Try.typeInfo36, rfl, rfl⟩
  · exact ⟨_, Try.typeInfo37, rfl, rfl⟩
  · exact ⟨_, Try.typeInfo41, rfl, rfl⟩
  · exact ⟨_, Try.typeInfo42, rfl, rfl⟩
  · exact ⟨_, Try.typeInfo45, rfl, rfl⟩
  · exact ⟨_, Try.typeInfo46, rfl, rfl⟩
  · exact ⟨_, Try.typeInfo47, rfl, rfl⟩
  · exact ⟨_, Try.typeInfo48, rfl, rfl⟩
  · exact ⟨_, Try.typeInfo55, rfl, rfl⟩
  · exact ⟨_, Try.typeInfo56, rfl, rfl⟩
  · exact ⟨_, Try.typeInfo57, rfl, rfl⟩
  · exact ⟨_, Try.typeInfo59, rfl, rfl⟩
  · exact ⟨_, Try.typeInfo60, rfl, rfl⟩
  · exact ⟨_, Try.typeInfo61, rfl, rfl⟩
  · exact ⟨_, Try.typeInfo63, rfl, rfl⟩
  · exact ⟨_, Try.typeInfo64, rfl, rfl⟩
  · exact ⟨_, Try.typeInfo67, rfl, rfl⟩
  · exact ⟨_, Try.typeInfo68, rfl, rfl⟩
  · exact ⟨_, Try.typeInfo69, rfl, rfl⟩
  · exact ⟨_, Try.typeInfo70, rfl, rfl⟩
  · exact ⟨_, Try.typeInfo71, rfl, rfl⟩
  · exact ⟨_, Try.typeInfo74, rfl, rfl⟩
  · exact ⟨_, Try.typeInfo77, rfl, rfl⟩
  · exact ⟨_, Try.typeInfo78, rfl, rfl⟩
  · exact ⟨_, Try.typeInfo81, rfl, rfl⟩
  · exact ⟨_, Try.typeInfo92, rfl, rfl⟩
  · exact ⟨_, Try.typeInfo93, rfl, rfl⟩
  · exact ⟨_, Try.typeInfo95, rfl, rfl⟩
  · exact ⟨_, Try.typeInfo99, rfl, rfl⟩
  · exact ⟨_, Try.typeInfo100, rfl, rfl⟩
  · exact ⟨_, Try.typeInfo103, rfl, rfl⟩
  · exact ⟨_, Try.typeInfo104, rfl, rfl⟩
  · exact ⟨_, Try.typeInfo107, rfl, rfl⟩
  · exact ⟨_, Try.typeInfo109, rfl, rfl⟩
  · exact ⟨_, Try.typeInfo117, rfl, rfl⟩

def fldT24 : Nat → Option Nat
  | 0 => some 0
  | 1 => some 1
  | 2 => some 2
  | 3 => some 3
  | 4 => some 4
  | _ => none

def fldT42 : Nat → Option Nat
  | 0 => some 0
  | 1 => some 1
  | 2 => some 2
  | 3 => some 3
  | _ => none

def fldT46 : Nat → Option Nat
  | 0 => some 0
  | 1 => some 1
  | _ => none

def fldT48 : Nat → Option Nat
  | 0 => some 0
  | 1 => some 1
  | 2 => some 2
  | 3 => some 3
  | 4 => some 4
  | _ => none

def fldT56 : Nat → Option Nat
  | 0 => some 0
  | 1 => some 1
  | 2 => some 2
  | 3 => some 3
  | 4 => some 4
  | 5 => some 5
  | 6 => some 6
  | 7 => some 7
  | 8 => some 8
  | _ => none

def fldT61 : Nat → Option Nat
  | 0 => some 0
  | 1 => some 1
  | _ => none

def fldT70 : Nat → Option Nat
  | 0 => some 0
  | 1 => some 5
  | 2 => some 6
  | 3 => some 7
  | _ => none

def fldT78 : Nat → Option Nat
  | 0 => some 0
  | 1 => some 1
  | _ => none

def fldT93 : Nat → Option Nat
  | 0 => some 0
  | 1 => some 1
  | _ => none

def fldT104 : Nat → Option Nat
  | 0 => some 0
  | 1 => some 1
  | 2 => some 2
  | _ => none

def fldT : Nat → Nat → Option Nat
  | 24, j => fldT24 j
  | 42, j => fldT42 j
  | 46, j => fldT46 j
  | 48, j => fldT48 j
  | 56, j => fldT56 j
  | 61, j => fldT61 j
  | 70, j => fldT70 j
  | 78, j => fldT78 j
  | 93, j => fldT93 j
  | 104, j => fldT104 j
  | _, _ => none

theorem fld_24_0 : ∀ b o w, (Instr.fieldAt 24 (.pointer (some ⟨b, o, none⟩)) 0).run Try.prog w = .ok (.pointer (some ⟨b, o + 0, none⟩)) w := fieldAt_run Try.runUnderlying24 rfl Try.sizeOf3 rfl rfl
theorem fld_24_1 : ∀ b o w, (Instr.fieldAt 24 (.pointer (some ⟨b, o, none⟩)) 1).run Try.prog w = .ok (.pointer (some ⟨b, o + 1, none⟩)) w := fieldAt_run Try.runUnderlying24 rfl Try.sizeOf3 rfl rfl
theorem fld_24_2 : ∀ b o w, (Instr.fieldAt 24 (.pointer (some ⟨b, o, none⟩)) 2).run Try.prog w = .ok (.pointer (some ⟨b, o + 2, none⟩)) w := fieldAt_run Try.runUnderlying24 rfl Try.sizeOf3 rfl rfl
theorem fld_24_3 : ∀ b o w, (Instr.fieldAt 24 (.pointer (some ⟨b, o, none⟩)) 3).run Try.prog w = .ok (.pointer (some ⟨b, o + 3, none⟩)) w := fieldAt_run Try.runUnderlying24 rfl Try.sizeOf22 rfl rfl
theorem fld_24_4 : ∀ b o w, (Instr.fieldAt 24 (.pointer (some ⟨b, o, none⟩)) 4).run Try.prog w = .ok (.pointer (some ⟨b, o + 4, none⟩)) w := fieldAt_run Try.runUnderlying24 rfl Try.sizeOf22 rfl rfl
theorem fld_42_0 : ∀ b o w, (Instr.fieldAt 42 (.pointer (some ⟨b, o, none⟩)) 0).run Try.prog w = .ok (.pointer (some ⟨b, o + 0, none⟩)) w := fieldAt_run Try.runUnderlying42 rfl Try.sizeOf3 rfl rfl
theorem fld_42_1 : ∀ b o w, (Instr.fieldAt 42 (.pointer (some ⟨b, o, none⟩)) 1).run Try.prog w = .ok (.pointer (some ⟨b, o + 1, none⟩)) w := fieldAt_run Try.runUnderlying42 rfl Try.sizeOf3 rfl rfl
theorem fld_42_2 : ∀ b o w, (Instr.fieldAt 42 (.pointer (some ⟨b, o, none⟩)) 2).run Try.prog w = .ok (.pointer (some ⟨b, o + 2, none⟩)) w := fieldAt_run Try.runUnderlying42 rfl Try.sizeOf3 rfl rfl
theorem fld_42_3 : ∀ b o w, (Instr.fieldAt 42 (.pointer (some ⟨b, o, none⟩)) 3).run Try.prog w = .ok (.pointer (some ⟨b, o + 3, none⟩)) w := fieldAt_run Try.runUnderlying42 rfl Try.sizeOf4 rfl rfl
theorem fld_46_0 : ∀ b o w, (Instr.fieldAt 46 (.pointer (some ⟨b, o, none⟩)) 0).run Try.prog w = .ok (.pointer (some ⟨b, o + 0, none⟩)) w := fieldAt_run Try.runUnderlying46 rfl Try.sizeOf3 rfl rfl
theorem fld_46_1 : ∀ b o w, (Instr.fieldAt 46 (.pointer (some ⟨b, o, none⟩)) 1).run Try.prog w = .ok (.pointer (some ⟨b, o + 1, none⟩)) w := fieldAt_run Try.runUnderlying46 rfl Try.sizeOf3 rfl rfl
theorem fld_48_0 : ∀ b o w, (Instr.fieldAt 48 (.pointer (some ⟨b, o, none⟩)) 0).run Try.prog w = .ok (.pointer (some ⟨b, o + 0, none⟩)) w := fieldAt_run Try.runUnderlying48 rfl Try.sizeOf3 rfl rfl
theorem fld_48_1 : ∀ b o w, (Instr.fieldAt 48 (.pointer (some ⟨b, o, none⟩)) 1).run Try.prog w = .ok (.pointer (some ⟨b, o + 1, none⟩)) w := fieldAt_run Try.runUnderlying48 rfl Try.sizeOf3 rfl rfl
theorem fld_48_2 : ∀ b o w, (Instr.fieldAt 48 (.pointer (some ⟨b, o, none⟩)) 2).run Try.prog w = .ok (.pointer (some ⟨b, o + 2, none⟩)) w := fieldAt_run Try.runUnderlying48 rfl Try.sizeOf3 rfl rfl
theorem fld_48_3 : ∀ b o w, (Instr.fieldAt 48 (.pointer (some ⟨b, o, none⟩)) 3).run Try.prog w = .ok (.pointer (some ⟨b, o + 3, none⟩)) w := fieldAt_run Try.runUnderlying48 rfl Try.sizeOf3 rfl rfl
theorem fld_48_4 : ∀ b o w, (Instr.fieldAt 48 (.pointer (some ⟨b, o, none⟩)) 4).run Try.prog w = .ok (.pointer (some ⟨b, o + 4, none⟩)) w := fieldAt_run Try.runUnderlying48 rfl Try.sizeOf46 rfl rfl
theorem fld_56_0 : ∀ b o w, (Instr.fieldAt 56 (.pointer (some ⟨b, o, none⟩)) 0).run Try.prog w = .ok (.pointer (some ⟨b, o + 0, none⟩)) w := fieldAt_run Try.runUnderlying56 rfl Try.sizeOf3 rfl rfl
theorem fld_56_1 : ∀ b o w, (Instr.fieldAt 56 (.pointer (some ⟨b, o, none⟩)) 1).run Try.prog w = .ok (.pointer (some ⟨b, o + 1, none⟩)) w := fieldAt_run Try.runUnderlying56 rfl Try.sizeOf3 rfl rfl
theorem fld_56_2 : ∀ b o w, (Instr.fieldAt 56 (.pointer (some ⟨b, o, none⟩)) 2).run Try.prog w = .ok (.pointer (some ⟨b, o + 2, none⟩)) w := fieldAt_run Try.runUnderlying56 rfl Try.sizeOf3 rfl rfl
theorem fld_56_3 : ∀ b o w, (Instr.fieldAt 56 (.pointer (some ⟨b, o, none⟩)) 3).run Try.prog w = .ok (.pointer (some ⟨b, o + 3, none⟩)) w := fieldAt_run Try.runUnderlying56 rfl Try.sizeOf3 rfl rfl
theorem fld_56_4 : ∀ b o w, (Instr.fieldAt 56 (.pointer (some ⟨b, o, none⟩)) 4).run Try.prog w = .ok (.pointer (some ⟨b, o + 4, none⟩)) w := fieldAt_run Try.runUnderlying56 rfl Try.sizeOf3 rfl rfl
theorem fld_56_5 : ∀ b o w, (Instr.fieldAt 56 (.pointer (some ⟨b, o, none⟩)) 5).run Try.prog w = .ok (.pointer (some ⟨b, o + 5, none⟩)) w := fieldAt_run Try.runUnderlying56 rfl Try.sizeOf3 rfl rfl
theorem fld_56_6 : ∀ b o w, (Instr.fieldAt 56 (.pointer (some ⟨b, o, none⟩)) 6).run Try.prog w = .ok (.pointer (some ⟨b, o + 6, none⟩)) w := fieldAt_run Try.runUnderlying56 rfl Try.sizeOf3 rfl rfl
theorem fld_56_7 : ∀ b o w, (Instr.fieldAt 56 (.pointer (some ⟨b, o, none⟩)) 7).run Try.prog w = .ok (.pointer (some ⟨b, o + 7, none⟩)) w := fieldAt_run Try.runUnderlying56 rfl Try.sizeOf3 rfl rfl
theorem fld_56_8 : ∀ b o w, (Instr.fieldAt 56 (.pointer (some ⟨b, o, none⟩)) 8).run Try.prog w = .ok (.pointer (some ⟨b, o + 8, none⟩)) w := fieldAt_run Try.runUnderlying56 rfl Try.sizeOf3 rfl rfl
theorem fld_61_0 : ∀ b o w, (Instr.fieldAt 61 (.pointer (some ⟨b, o, none⟩)) 0).run Try.prog w = .ok (.pointer (some ⟨b, o + 0, none⟩)) w := fieldAt_run Try.runUnderlying61 rfl Try.sizeOf3 rfl rfl
theorem fld_61_1 : ∀ b o w, (Instr.fieldAt 61 (.pointer (some ⟨b, o, none⟩)) 1).run Try.prog w = .ok (.pointer (some ⟨b, o + 1, none⟩)) w := fieldAt_run Try.runUnderlying61 rfl Try.sizeOf59 rfl rfl
theorem fld_70_0 : ∀ b o w, (Instr.fieldAt 70 (.pointer (some ⟨b, o, none⟩)) 0).run Try.prog w = .ok (.pointer (some ⟨b, o + 0, none⟩)) w := fieldAt_run Try.runUnderlying70 rfl Try.sizeOf24 rfl rfl
theorem fld_70_1 : ∀ b o w, (Instr.fieldAt 70 (.pointer (some ⟨b, o, none⟩)) 1).run Try.prog w = .ok (.pointer (some ⟨b, o + 5, none⟩)) w := fieldAt_run Try.runUnderlying70 rfl Try.sizeOf36 rfl rfl
theorem fld_70_2 : ∀ b o w, (Instr.fieldAt 70 (.pointer (some ⟨b, o, none⟩)) 2).run Try.prog w = .ok (.pointer (some ⟨b, o + 6, none⟩)) w := fieldAt_run Try.runUnderlying70 rfl Try.sizeOf67 rfl rfl
theorem fld_70_3 : ∀ b o w, (Instr.fieldAt 70 (.pointer (some ⟨b, o, none⟩)) 3).run Try.prog w = .ok (.pointer (some ⟨b, o + 7, none⟩)) w := fieldAt_run Try.runUnderlying70 rfl Try.sizeOf68 rfl rfl
theorem fld_78_0 : ∀ b o w, (Instr.fieldAt 78 (.pointer (some ⟨b, o, none⟩)) 0).run Try.prog w = .ok (.pointer (some ⟨b, o + 0, none⟩)) w := fieldAt_run Try.runUnderlying78 rfl Try.sizeOf3 rfl rfl
theorem fld_78_1 : ∀ b o w, (Instr.fieldAt 78 (.pointer (some ⟨b, o, none⟩)) 1).run Try.prog w = .ok (.pointer (some ⟨b, o + 1, none⟩)) w := fieldAt_run Try.runUnderlying78 rfl Try.sizeOf3 rfl rfl
theorem fld_93_0 : ∀ b o w, (Instr.fieldAt 93 (.pointer (some ⟨b, o, none⟩)) 0).run Try.prog w = .ok (.pointer (some ⟨b, o + 0, none⟩)) w := fieldAt_run Try.runUnderlying93 rfl Try.sizeOf3 rfl rfl
theorem fld_93_1 : ∀ b o w, (Instr.fieldAt 93 (.pointer (some ⟨b, o, none⟩)) 1).run Try.prog w = .ok (.pointer (some ⟨b, o + 1, none⟩)) w := fieldAt_run Try.runUnderlying93 rfl Try.sizeOf3 rfl rfl
theorem fld_104_0 : ∀ b o w, (Instr.fieldAt 104 (.pointer (some ⟨b, o, none⟩)) 0).run Try.prog w = .ok (.pointer (some ⟨b, o + 0, none⟩)) w := fieldAt_run Try.runUnderlying104 rfl Try.sizeOf3 rfl rfl
theorem fld_104_1 : ∀ b o w, (Instr.fieldAt 104 (.pointer (some ⟨b, o, none⟩)) 1).run Try.prog w = .ok (.pointer (some ⟨b, o + 1, none⟩)) w := fieldAt_run Try.runUnderlying104 rfl Try.sizeOf3 rfl rfl
theorem fld_104_2 : ∀ b o w, (Instr.fieldAt 104 (.pointer (some ⟨b, o, none⟩)) 2).run Try.prog w = .ok (.pointer (some ⟨b, o + 2, none⟩)) w := fieldAt_run Try.runUnderlying104 rfl Try.sizeOf4 rfl rfl
theorem fldr_24 {k off : Nat} (h : fldT24 k = some off) : ∀ b o w, (Instr.fieldAt 24 (.pointer (some ⟨b, o, none⟩)) k).run Try.prog w = .ok (.pointer (some ⟨b, o + off, none⟩)) w := by
  unfold fldT24 at h
  split at h <;> (try cases h)
  · exact fld_24_0
  · exact fld_24_1
  · exact fld_24_2
  · exact fld_24_3
  · exact fld_24_4

theorem fldr_42 {k off : Nat} (h : fldT42 k = some off) : ∀ b o w, (Instr.fieldAt 42 (.pointer (some ⟨b, o, none⟩)) k).run Try.prog w = .ok (.pointer (some ⟨b, o + off, none⟩)) w := by
  unfold fldT42 at h
  split at h <;> (try cases h)
  · exact fld_42_0
  · exact fld_42_1
  · exact fld_42_2
  · exact fld_42_3

theorem fldr_46 {k off : Nat} (h : fldT46 k = some off) : ∀ b o w, (Instr.fieldAt 46 (.pointer (some ⟨b, o, none⟩)) k).run Try.prog w = .ok (.pointer (some ⟨b, o + off, none⟩)) w := by
  unfold fldT46 at h
  split at h <;> (try cases h)
  · exact fld_46_0
  · exact fld_46_1

theorem fldr_48 {k off : Nat} (h : fldT48 k = some off) : ∀ b o w, (Instr.fieldAt 48 (.pointer (some ⟨b, o, none⟩)) k).run Try.prog w = .ok (.pointer (some ⟨b, o + off, none⟩)) w := by
  unfold fldT48 at h
  split at h <;> (try cases h)
  · exact fld_48_0
  · exact fld_48_1
  · exact fld_48_2
  · exact fld_48_3
  · exact fld_48_4

theorem fldr_56 {k off : Nat} (h : fldT56 k = some off) : ∀ b o w, (Instr.fieldAt 56 (.pointer (some ⟨b, o, none⟩)) k).run Try.prog w = .ok (.pointer (some ⟨b, o + off, none⟩)) w := by
  unfold fldT56 at h
  split at h <;> (try cases h)
  · exact fld_56_0
  · exact fld_56_1
  · exact fld_56_2
  · exact fld_56_3
  · exact fld_56_4
  · exact fld_56_5
  · exact fld_56_6
  · exact fld_56_7
  · exact fld_56_8

theorem fldr_61 {k off : Nat} (h : fldT61 k = some off) : ∀ b o w, (Instr.fieldAt 61 (.pointer (some ⟨b, o, none⟩)) k).run Try.prog w = .ok (.pointer (some ⟨b, o + off, none⟩)) w := by
  unfold fldT61 at h
  split at h <;> (try cases h)
  · exact fld_61_0
  · exact fld_61_1

theorem fldr_70 {k off : Nat} (h : fldT70 k = some off) : ∀ b o w, (Instr.fieldAt 70 (.pointer (some ⟨b, o, none⟩)) k).run Try.prog w = .ok (.pointer (some ⟨b, o + off, none⟩)) w := by
  unfold fldT70 at h
  split at h <;> (try cases h)
  · exact fld_70_0
  · exact fld_70_1
  · exact fld_70_2
  · exact fld_70_3

theorem fldr_78 {k off : Nat} (h : fldT78 k = some off) : ∀ b o w, (Instr.fieldAt 78 (.pointer (some ⟨b, o, none⟩)) k).run Try.prog w = .ok (.pointer (some ⟨b, o + off, none⟩)) w := by
  unfold fldT78 at h
  split at h <;> (try cases h)
  · exact fld_78_0
  · exact fld_78_1

theorem fldr_93 {k off : Nat} (h : fldT93 k = some off) : ∀ b o w, (Instr.fieldAt 93 (.pointer (some ⟨b, o, none⟩)) k).run Try.prog w = .ok (.pointer (some ⟨b, o + off, none⟩)) w := by
  unfold fldT93 at h
  split at h <;> (try cases h)
  · exact fld_93_0
  · exact fld_93_1

theorem fldr_104 {k off : Nat} (h : fldT104 k = some off) : ∀ b o w, (Instr.fieldAt 104 (.pointer (some ⟨b, o, none⟩)) k).run Try.prog w = .ok (.pointer (some ⟨b, o + off, none⟩)) w := by
  unfold fldT104 at h
  split at h <;> (try cases h)
  · exact fld_104_0
  · exact fld_104_1
  · exact fld_104_2

set_option maxHeartbeats 2000000 in
theorem fld_run {s k off : Nat} (h : fldT s k = some off) : ∀ b o w, (Instr.fieldAt s (.pointer (some ⟨b, o, none⟩)) k).run Try.prog w = .ok (.pointer (some ⟨b, o + off, none⟩)) w := by
  unfold fldT at h
  split at h
  · exact fldr_24 h
  · exact fldr_42 h
  · exact fldr_46 h
  · exact fldr_48 h
  · exact fldr_56 h
  · exact fldr_61 h
  · exact fldr_70 h
  · exact fldr_78 h
  · exact fldr_93 h
  · exact fldr_104 h
  · cases h

theorem sl_22 : SlFact Try.prog 22 3 1 8 [.int .i64 0] := SlFact.mk' (z := .int .i64 0) Try.underlying22 (by kernel_rfl) rfl rfl (by decide)
theorem sl_25 : SlFact Try.prog 25 56 9 72 [.int .i64 0, .int .i64 0, .int .i64 0, .int .i64 0, .int .i64 0, .int .i64 0, .int .i64 0, .int .i64 0, .int .i64 0] := SlFact.mk' (z := .agg #[.int .i64 0, .int .i64 0, .int .i64 0, .int .i64 0, .int .i64 0, .int .i64 0, .int .i64 0, .int .i64 0, .int .i64 0]) Try.underlying25 (by kernel_rfl) rfl rfl (by decide)
theorem sl_36 : SlFact Try.prog 36 42 4 32 [.int .i64 0, .int .i64 0, .int .i64 0, .bool false] := SlFact.mk' (z := .agg #[.int .i64 0, .int .i64 0, .int .i64 0, .bool false]) Try.underlying36 (by kernel_rfl) rfl rfl (by decide)
theorem sl_37 : SlFact Try.prog 37 48 6 48 [.int .i64 0, .int .i64 0, .int .i64 0, .int .i64 0, .int .i64 0, .int .i64 0] := SlFact.mk' (z := .agg #[.int .i64 0, .int .i64 0, .int .i64 0, .int .i64 0, .int .i64 0, .int .i64 0]) Try.underlying37 (by kernel_rfl) rfl rfl (by decide)
def slT : Nat → Option (Nat × Nat × Nat × List Value)
  | 22 => some (3, 1, 8, [.int .i64 0])
  | 25 => some (56, 9, 72, [.int .i64 0, .int .i64 0, .int .i64 0, .int .i64 0, .int .i64 0, .int .i64 0, .int .i64 0, .int .i64 0, .int .i64 0])
  | 36 => some (42, 4, 32, [.int .i64 0, .int .i64 0, .int .i64 0, .bool false])
  | 37 => some (48, 6, 48, [.int .i64 0, .int .i64 0, .int .i64 0, .int .i64 0, .int .i64 0, .int .i64 0])
  | _ => none

theorem sl_run {t el sz bt : Nat} {zs : List Value} (h : slT t = some (el, sz, bt, zs)) : SlFact Try.prog t el sz bt zs := by
  unfold slT at h
  split at h <;> (try cases h)
  · exact sl_22
  · exact sl_25
  · exact sl_36
  · exact sl_37

set_option maxHeartbeats 1000000 in
theorem bld_24_0_1_2_4 {e : Env} {x0 x1 x2 x3 : Operand} {n0 : Int} {n1 : Int} {n2 : Int} {A3 : Option Addr} {l3 c3 : Nat} (h0 : ev e x0 = .int .i64 n0) (h1 : ev e x1 = .int .i64 n1) (h2 : ev e x2 = .int .i64 n2) (h3 : ev e x3 = .slice A3 l3 c3) : ∀ w, (Instr.build 24 #[(0, ev e x0), (1, ev e x1), (2, ev e x2), (4, ev e x3)]).run Try.prog w = .ok (.agg #[.int .i64 n0, .int .i64 n1, .int .i64 n2, .slice none 0 0, .slice A3 l3 c3]) w := by
  intro w
  rw [h0, h1, h2, h3]
  simp [Instr.build, go_sem]

set_option maxHeartbeats 1000000 in
theorem bld_42_ {e : Env}   : ∀ w, (Instr.build 42 #[]).run Try.prog w = .ok (.agg #[.int .i64 0, .int .i64 0, .int .i64 0, .bool false]) w := by
  intro w
  simp [Instr.build, go_sem]

set_option maxHeartbeats 1000000 in
theorem bld_42_0 {e : Env} {x0 : Operand} {n0 : Int} (h0 : ev e x0 = .int .i64 n0) : ∀ w, (Instr.build 42 #[(0, ev e x0)]).run Try.prog w = .ok (.agg #[.int .i64 n0, .int .i64 0, .int .i64 0, .bool false]) w := by
  intro w
  rw [h0]
  simp [Instr.build, go_sem]

set_option maxHeartbeats 1000000 in
theorem bld_42_0_1 {e : Env} {x0 x1 : Operand} {n0 : Int} {n1 : Int} (h0 : ev e x0 = .int .i64 n0) (h1 : ev e x1 = .int .i64 n1) : ∀ w, (Instr.build 42 #[(0, ev e x0), (1, ev e x1)]).run Try.prog w = .ok (.agg #[.int .i64 n0, .int .i64 n1, .int .i64 0, .bool false]) w := by
  intro w
  rw [h0, h1]
  simp [Instr.build, go_sem]

set_option maxHeartbeats 1000000 in
theorem bld_42_0_2 {e : Env} {x0 x1 : Operand} {n0 : Int} {n1 : Int} (h0 : ev e x0 = .int .i64 n0) (h1 : ev e x1 = .int .i64 n1) : ∀ w, (Instr.build 42 #[(0, ev e x0), (2, ev e x1)]).run Try.prog w = .ok (.agg #[.int .i64 n0, .int .i64 0, .int .i64 n1, .bool false]) w := by
  intro w
  rw [h0, h1]
  simp [Instr.build, go_sem]

set_option maxHeartbeats 1000000 in
theorem bld_46_0 {e : Env} {x0 : Operand} {n0 : Int} (h0 : ev e x0 = .int .i64 n0) : ∀ w, (Instr.build 46 #[(0, ev e x0)]).run Try.prog w = .ok (.agg #[.int .i64 n0, .int .i64 0]) w := by
  intro w
  rw [h0]
  simp [Instr.build, go_sem]

set_option maxHeartbeats 1000000 in
theorem bld_48_0_1 {e : Env} {x0 x1 : Operand} {n0 : Int} {n1 : Int} (h0 : ev e x0 = .int .i64 n0) (h1 : ev e x1 = .int .i64 n1) : ∀ w, (Instr.build 48 #[(0, ev e x0), (1, ev e x1)]).run Try.prog w = .ok (.agg #[.int .i64 n0, .int .i64 n1, .int .i64 0, .int .i64 0, .int .i64 0, .int .i64 0]) w := by
  intro w
  rw [h0, h1]
  simp [Instr.build, go_sem]

set_option maxHeartbeats 1000000 in
theorem bld_48_0_1_2_3_4 {e : Env} {x0 x1 x2 x3 x4 : Operand} {n0 : Int} {n1 : Int} {n2 : Int} {n3 : Int} {v4_0 v4_1 : Value} (h0 : ev e x0 = .int .i64 n0) (h1 : ev e x1 = .int .i64 n1) (h2 : ev e x2 = .int .i64 n2) (h3 : ev e x3 = .int .i64 n3) (h4 : ev e x4 = .agg #[v4_0, v4_1]) : ∀ w, (Instr.build 48 #[(0, ev e x0), (1, ev e x1), (2, ev e x2), (3, ev e x3), (4, ev e x4)]).run Try.prog w = .ok (.agg #[.int .i64 n0, .int .i64 n1, .int .i64 n2, .int .i64 n3, v4_0, v4_1]) w := by
  intro w
  rw [h0, h1, h2, h3, h4]
  simp [Instr.build, go_sem]

set_option maxHeartbeats 1000000 in
theorem bld_56_1_2_3_4 {e : Env} {x0 x1 x2 x3 : Operand} {n0 : Int} {n1 : Int} {n2 : Int} {n3 : Int} (h0 : ev e x0 = .int .i64 n0) (h1 : ev e x1 = .int .i64 n1) (h2 : ev e x2 = .int .i64 n2) (h3 : ev e x3 = .int .i64 n3) : ∀ w, (Instr.build 56 #[(1, ev e x0), (2, ev e x1), (3, ev e x2), (4, ev e x3)]).run Try.prog w = .ok (.agg #[.int .i64 0, .int .i64 n0, .int .i64 n1, .int .i64 n2, .int .i64 n3, .int .i64 0, .int .i64 0, .int .i64 0, .int .i64 0]) w := by
  intro w
  rw [h0, h1, h2, h3]
  simp [Instr.build, go_sem]

set_option maxHeartbeats 1000000 in
theorem bld_56_1_2_3_4_6 {e : Env} {x0 x1 x2 x3 x4 : Operand} {n0 : Int} {n1 : Int} {n2 : Int} {n3 : Int} {n4 : Int} (h0 : ev e x0 = .int .i64 n0) (h1 : ev e x1 = .int .i64 n1) (h2 : ev e x2 = .int .i64 n2) (h3 : ev e x3 = .int .i64 n3) (h4 : ev e x4 = .int .i64 n4) : ∀ w, (Instr.build 56 #[(1, ev e x0), (2, ev e x1), (3, ev e x2), (4, ev e x3), (6, ev e x4)]).run Try.prog w = .ok (.agg #[.int .i64 0, .int .i64 n0, .int .i64 n1, .int .i64 n2, .int .i64 n3, .int .i64 0, .int .i64 n4, .int .i64 0, .int .i64 0]) w := by
  intro w
  rw [h0, h1, h2, h3, h4]
  simp [Instr.build, go_sem]

set_option maxHeartbeats 1000000 in
theorem bld_61_0_1 {e : Env} {x0 x1 : Operand} {n0 : Int} {A1 : Option Nat} (h0 : ev e x0 = .int .i64 n0) (h1 : ev e x1 = .map A1) : ∀ w, (Instr.build 61 #[(0, ev e x0), (1, ev e x1)]).run Try.prog w = .ok (.agg #[.int .i64 n0, .map A1]) w := by
  intro w
  rw [h0, h1]
  simp [Instr.build, go_sem]

set_option maxHeartbeats 1000000 in
theorem bld_70_0_1_2_3 {e : Env} {x0 x1 x2 x3 : Operand} {v0_0 v0_1 v0_2 v0_3 v0_4 : Value} {A1 : Option Addr} {l1 c1 : Nat} {A2 : Option Nat} {A3 : Option Nat} (h0 : ev e x0 = .agg #[v0_0, v0_1, v0_2, v0_3, v0_4]) (h1 : ev e x1 = .slice A1 l1 c1) (h2 : ev e x2 = .map A2) (h3 : ev e x3 = .map A3) : ∀ w, (Instr.build 70 #[(0, ev e x0), (1, ev e x1), (2, ev e x2), (3, ev e x3)]).run Try.prog w = .ok (.agg #[v0_0, v0_1, v0_2, v0_3, v0_4, .slice A1 l1 c1, .map A2, .map A3]) w := by
  intro w
  rw [h0, h1, h2, h3]
  simp [Instr.build, go_sem]

set_option maxHeartbeats 1000000 in
theorem bld_78_0_1 {e : Env} {x0 x1 : Operand} {n0 : Int} {n1 : Int} (h0 : ev e x0 = .int .i64 n0) (h1 : ev e x1 = .int .i64 n1) : ∀ w, (Instr.build 78 #[(0, ev e x0), (1, ev e x1)]).run Try.prog w = .ok (.agg #[.int .i64 n0, .int .i64 n1]) w := by
  intro w
  rw [h0, h1]
  simp [Instr.build, go_sem]

set_option maxHeartbeats 1000000 in
theorem bld_93_0_1 {e : Env} {x0 x1 : Operand} {n0 : Int} {n1 : Int} (h0 : ev e x0 = .int .i64 n0) (h1 : ev e x1 = .int .i64 n1) : ∀ w, (Instr.build 93 #[(0, ev e x0), (1, ev e x1)]).run Try.prog w = .ok (.agg #[.int .i64 n0, .int .i64 n1]) w := by
  intro w
  rw [h0, h1]
  simp [Instr.build, go_sem]

set_option maxHeartbeats 1000000 in
theorem bld_104_0_1 {e : Env} {x0 x1 : Operand} {n0 : Int} {n1 : Int} (h0 : ev e x0 = .int .i64 n0) (h1 : ev e x1 = .int .i64 n1) : ∀ w, (Instr.build 104 #[(0, ev e x0), (1, ev e x1)]).run Try.prog w = .ok (.agg #[.int .i64 n0, .int .i64 n1, .bool false]) w := by
  intro w
  rw [h0, h1]
  simp [Instr.build, go_sem]

set_option maxHeartbeats 1000000 in
theorem bsl_22_1_0 {e : Env} {x0 : Operand} {n0 : Int} (h0 : ev e x0 = .int .i64 n0) : ∀ w, (Instr.buildSlice 22 1 #[(0, ev e x0)]).run Try.prog w = .ok (.slice (some ⟨w.heap.size, 0, none⟩) 1 1) (w.alloc (.cells ([.int .i64 n0] : List Value).toArray 3)) := by
  intro w
  rw [h0]
  simp [Instr.buildSlice, go_sem]

set_option maxHeartbeats 1000000 in
theorem bsl_22_3_0_1_2 {e : Env} {x0 x1 x2 : Operand} {n0 : Int} {n1 : Int} {n2 : Int} (h0 : ev e x0 = .int .i64 n0) (h1 : ev e x1 = .int .i64 n1) (h2 : ev e x2 = .int .i64 n2) : ∀ w, (Instr.buildSlice 22 3 #[(0, ev e x0), (1, ev e x1), (2, ev e x2)]).run Try.prog w = .ok (.slice (some ⟨w.heap.size, 0, none⟩) 3 3) (w.alloc (.cells ([.int .i64 n0, .int .i64 n1, .int .i64 n2] : List Value).toArray 3)) := by
  intro w
  rw [h0, h1, h2]
  simp [Instr.buildSlice, go_sem]

set_option maxHeartbeats 1000000 in
theorem bsl_25_0_ {e : Env}   : ∀ w, (Instr.buildSlice 25 0 #[]).run Try.prog w = .ok (.slice (some ⟨w.heap.size, 0, none⟩) 0 0) (w.alloc (.cells ([] : List Value).toArray 56)) := by
  intro w
  simp [Instr.buildSlice, go_sem]

set_option maxHeartbeats 1000000 in
theorem bsl_25_1_0 {e : Env} {x0 : Operand} {v0_0 v0_1 v0_2 v0_3 v0_4 v0_5 v0_6 v0_7 v0_8 : Value} (h0 : ev e x0 = .agg #[v0_0, v0_1, v0_2, v0_3, v0_4, v0_5, v0_6, v0_7, v0_8]) : ∀ w, (Instr.buildSlice 25 1 #[(0, ev e x0)]).run Try.prog w = .ok (.slice (some ⟨w.heap.size, 0, none⟩) 1 1) (w.alloc (.cells ([v0_0, v0_1, v0_2, v0_3, v0_4, v0_5, v0_6, v0_7, v0_8] : List Value).toArray 56)) := by
  intro w
  rw [h0]
  simp [Instr.buildSlice, go_sem]

set_option maxHeartbeats 1000000 in
theorem bsl_36_1_0 {e : Env} {x0 : Operand} {v0_0 v0_1 v0_2 v0_3 : Value} (h0 : ev e x0 = .agg #[v0_0, v0_1, v0_2, v0_3]) : ∀ w, (Instr.buildSlice 36 1 #[(0, ev e x0)]).run Try.prog w = .ok (.slice (some ⟨w.heap.size, 0, none⟩) 1 1) (w.alloc (.cells ([v0_0, v0_1, v0_2, v0_3] : List Value).toArray 42)) := by
  intro w
  rw [h0]
  simp [Instr.buildSlice, go_sem]

set_option maxHeartbeats 1000000 in
theorem bsl_37_1_0 {e : Env} {x0 : Operand} {v0_0 v0_1 v0_2 v0_3 v0_4 v0_5 : Value} (h0 : ev e x0 = .agg #[v0_0, v0_1, v0_2, v0_3, v0_4, v0_5]) : ∀ w, (Instr.buildSlice 37 1 #[(0, ev e x0)]).run Try.prog w = .ok (.slice (some ⟨w.heap.size, 0, none⟩) 1 1) (w.alloc (.cells ([v0_0, v0_1, v0_2, v0_3, v0_4, v0_5] : List Value).toArray 48)) := by
  intro w
  rw [h0]
  simp [Instr.buildSlice, go_sem]

def funT : Nat → Bool
  | 3 => true
  | 4 => true
  | 5 => true
  | 6 => true
  | 7 => true
  | 8 => true
  | 9 => true
  | 10 => true
  | 11 => true
  | 12 => true
  | 13 => true
  | 14 => true
  | 15 => true
  | 16 => true
  | 17 => true
  | 18 => true
  | 19 => true
  | 20 => true
  | 21 => true
  | 22 => true
  | 23 => true
  | 24 => true
  | 25 => true
  | 26 => true
  | 27 => true
  | 28 => true
  | 29 => true
  | 30 => true
  | 31 => true
  | 32 => true
  | 33 => true
  | 34 => true
  | 35 => true
  | 36 => true
  | 37 => true
  | 38 => true
  | 39 => true
  | 40 => true
  | 41 => true
  | 42 => true
  | 43 => true
  | 44 => true
  | 45 => true
  | 46 => true
  | 47 => true
  | 48 => true
  | 49 => true
  | 50 => true
  | 51 => true
  | 52 => true
  | 53 => true
  | 54 => true
  | 55 => true
  | 56 => true
  | 57 => true
  | 58 => true
  | 59 => true
  | 60 => true
  | 61 => true
  | 62 => true
  | 63 => true
  | _ => false

set_option maxHeartbeats 2000000 in
theorem fun_run {f : Nat} (h : funT f = true) : ∀ (args : Array Value) (w : World), (callFunc f args).run Try.prog w = .ok (.enter f args) w := by
  unfold funT at h
  split at h <;> (try cases h)
  · exact Try.call3
  · exact Try.call4
  · exact Try.call5
  · exact Try.call6
  · exact Try.call7
  · exact Try.call8
  · exact Try.call9
  · exact Try.call10
  · exact Try.call11
  · exact Try.call12
  · exact Try.call13
  · exact Try.call14
  · exact Try.call15
  · exact Try.call16
  · exact Try.call17
  · exact Try.call18
  · exact Try.call19
  · exact Try.call20
  · exact Try.call21
  · exact Try.call22
  · exact Try.call23
  · exact Try.call24
  · exact Try.call25
  · exact Try.call26
  · exact Try.call27
  · exact Try.call28
  · exact Try.call29
  · exact Try.call30
  · exact Try.call31
  · exact Try.call32
  · exact Try.call33
  · exact Try.call34
  · exact Try.call35
  · exact Try.call36
  · exact Try.call37
  · exact Try.call38
  · exact Try.call39
  · exact Try.call40
  · exact Try.call41
  · exact Try.call42
  · exact Try.call43
  · exact Try.call44
  · exact Try.call45
  · exact Try.call46
  · exact Try.call47
  · exact Try.call48
  · exact Try.call49
  · exact Try.call50
  · exact Try.call51
  · exact Try.call52
  · exact Try.call53
  · exact Try.call54
  · exact Try.call55
  · exact Try.call56
  · exact Try.call57
  · exact Try.call58
  · exact Try.call59
  · exact Try.call60
  · exact Try.call61
  · exact Try.call62
  · exact Try.call63

theorem mixed : Try.prog.follows .mixedOrders = true := by kernel_rfl

end Go.Proofs.Ytchjbjplddhknaa
