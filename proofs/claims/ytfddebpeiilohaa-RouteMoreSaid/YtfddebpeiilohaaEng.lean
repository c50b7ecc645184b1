/-
  A small logic for walking loaded Go functions: the frame is a function from slots to values, the code is walked by rules, and the world is a variable
  about which one hypothesis 'SH w0 S w L' says all that is known: blocks of the list L hold just what the list says, and everything else that was there in w0 (but for the blocks S) is unchanged.
-/
import Derived.WalkKit
import Derived.Still
import Derived.StillTail
import Derived.Deep.Quiet
import Derived.Deep.LoopGhost
import Derived.KernelRfl
set_option linter.all false
namespace Go.W
open Go.RowKit

abbrev Env := Nat → Value
def envOf (a : Act) : Env := fun t => a.tmps.getD t undef
def ev (e : Env) : Operand → Value
  | .tmp t => e t
  | .const v => v
  | .global g => .pointer (some ⟨g, 0, none⟩)
  | .func f => .func (.func f) #[] #[]
def upd (e : Env) (d : Nat) (v : Value) : Env := fun j => bif Nat.beq j d then v else e j

theorem eval_eq (a : Act) : a.eval = ev (envOf a) := by funext x; cases x <;> rfl
theorem envOf_put {a : Act} {d N : Nat} (v : Value) (hs : a.tmps.size = N) (hd : Nat.blt d N = true) : envOf (a.put (some d) v) = upd (envOf a) d v := by
  have hd' : d < a.tmps.size := by simp [Nat.blt] at hd; omega
  funext j
  simp only [envOf, Act.put, upd]
  by_cases h : j = d
  · subst h; simp [hd']
  · have hb : Nat.beq j d = false := by
      cases hx : Nat.beq j d with
      | false => rfl
      | true => exact absurd (Nat.eq_of_beq_eq_true hx) h
    rw [hb]; simp [Ne.symm h]
theorem size_put (a : Act) (d : Option Tmp) (v : Value) : (a.put d v).tmps.size = a.tmps.size := by cases d <;> simp [Act.put]
theorem defers_put (a : Act) (d : Option Tmp) (v : Value) : (a.put d v).defers = a.defers := by cases d <;> rfl

/-! ### codes -/
def post (N : Nat) (Kn : Env → World → Prop) (Kx : Nat → Env → World → Prop) (Kr : Env → World → Prop) : Exit → Act → World → Prop
  | .normal, a, w => a.tmps.size = N ∧ a.defers = [] ∧ Kn (envOf a) w
  | .exit id, a, w => a.tmps.size = N ∧ a.defers = [] ∧ Kx id (envOf a) w
  | .ret, a, w => a.tmps.size = N ∧ a.defers = [] ∧ Kr (envOf a) w
  | _, _, _ => False
structure WP (P : Program) (N : Nat) (c : Code) (Kn : Env → World → Prop) (Kx : Nat → Env → World → Prop) (Kr : Env → World → Prop) (e : Env) (w : World) : Prop where
  run : ∀ a : Act, envOf a = e → a.tmps.size = N → a.defers = [] → c.wp P (post N Kn Kx Kr) a w
def NoX : Nat → Env → World → Prop := fun _ _ _ => False
def NoR : Env → World → Prop := fun _ _ => False
structure XB (id : Nat) (Kn : Env → World → Prop) (Kx : Nat → Env → World → Prop) (j : Nat) (e : Env) (w : World) : Prop where
  out : if j = id then Kn e w else Kx j e w

section
variable {P : Program} {N : Nat} {Kn : Env → World → Prop} {Kx : Nat → Env → World → Prop} {Kr : Env → World → Prop} {e : Env} {w : World}
theorem XB.hit {id : Nat} (h : Kn e w) : XB id Kn Kx id e w := ⟨by simpa using h⟩
theorem XB.miss {id j : Nat} (hj : Nat.beq j id = false) (h : Kx j e w) : XB id Kn Kx j e w := ⟨by rw [if_neg (fun he => by subst he; rw [Nat.beq_refl] at hj; cases hj)]; exact h⟩
theorem post_then (N : Nat) (y : Code) : ∀ ex a w, post N (fun e w => WP P N y Kn Kx Kr e w) Kx Kr ex a w → Exit.then (y.wp P (post N Kn Kx Kr)) (post N Kn Kx Kr) ex a w := by
  intro ex a w h
  cases ex <;> simp only [post, Exit.then] at h ⊢ <;> try exact h
  exact h.2.2.run _ rfl h.1 h.2.1
theorem WP.seq {x y : Code} (h : WP P N x (fun e w => WP P N y Kn Kx Kr e w) Kx Kr e w) : WP P N (.seq x y) Kn Kx Kr e w :=
  ⟨fun a h1 h2 h3 => wp_seq (Code.wp_mono (post_then N y) (h.run a h1 h2 h3))⟩
theorem WP.skip (h : Kn e w) : WP P N .skip Kn Kx Kr e w := ⟨fun _ h1 h2 h3 => wp_skip ⟨h2, h3, h1 ▸ h⟩⟩
theorem WP.label {l : Nat} (h : Kn e w) : WP P N (.label l) Kn Kx Kr e w := ⟨fun _ h1 h2 h3 => wp_label ⟨h2, h3, h1 ▸ h⟩⟩
theorem WP.exit {id : Nat} (h : Kx id e w) : WP P N (.exit id) Kn Kx Kr e w := ⟨fun _ h1 h2 h3 => wp_exit ⟨h2, h3, h1 ▸ h⟩⟩
theorem WP.ret (h : Kr e w) : WP P N .ret Kn Kx Kr e w := ⟨fun _ h1 h2 h3 => wp_ret ⟨h2, h3, h1 ▸ h⟩⟩
theorem WP.block {id : Nat} {c : Code} (h : WP P N c Kn (XB id Kn Kx) Kr e w) : WP P N (.block id c) Kn Kx Kr e w :=
  ⟨fun a h1 h2 h3 => wp_block (Code.wp_mono (fun ex a w h => by
    cases ex <;> simp only [post, Exit.inBlock] at h ⊢ <;> try exact h
    rename_i j
    by_cases hj : j = id
    · have := h.2.2.out; simp only [hj, if_true] at this ⊢; exact ⟨h.1, h.2.1, this⟩
    · have := h.2.2.out; simp only [hj, if_false] at this ⊢; exact ⟨h.1, h.2.1, this⟩) (h.run a h1 h2 h3))⟩
theorem WP.cond {c : Operand} {x y : Code} {b : Bool} (hc : ev e c = .bool b) (ht : b = true → WP P N x Kn Kx Kr e w) (hf : b = false → WP P N y Kn Kx Kr e w) : WP P N (.cond c x y) Kn Kx Kr e w :=
  ⟨fun a h1 h2 h3 => wp_cond_split (t := b) (by rw [eval_eq, h1]; exact hc) (fun h => (ht h).run a h1 h2 h3) (fun h => (hf h).run a h1 h2 h3)⟩
theorem WP.cond_t {c : Operand} {x y : Code} (hc : ev e c = .bool true) (ht : WP P N x Kn Kx Kr e w) : WP P N (.cond c x y) Kn Kx Kr e w := WP.cond hc (fun _ => ht) (fun h => by cases h)
theorem WP.cond_f {c : Operand} {x y : Code} (hc : ev e c = .bool false) (hf : WP P N y Kn Kx Kr e w) : WP P N (.cond c x y) Kn Kx Kr e w := WP.cond hc (fun h => by cases h) (fun _ => hf)
theorem WP.mono {c : Code} {Kn' : Env → World → Prop} {Kx' : Nat → Env → World → Prop} {Kr' : Env → World → Prop} (h : WP P N c Kn Kx Kr e w)
    (hn : ∀ e w, Kn e w → Kn' e w) (hx : ∀ j e w, Kx j e w → Kx' j e w) (hr : ∀ e w, Kr e w → Kr' e w) : WP P N c Kn' Kx' Kr' e w :=
  ⟨fun a h1 h2 h3 => Code.wp_mono (fun ex a w h => by
    cases ex <;> simp only [post] at h ⊢
    · exact ⟨h.1, h.2.1, hn _ _ h.2.2⟩
    · exact ⟨h.1, h.2.1, hx _ _ _ h.2.2⟩
    · exact ⟨h.1, h.2.1, hr _ _ h.2.2⟩) (h.run a h1 h2 h3)⟩
/-- a loop with an invariant on the frame and the world -/
theorem WP.loop0 {c : Code} (I : Env → World → Prop) (μ : Env → World → Nat) (h0 : I e w)
    (h : ∀ e w, I e w → WP P N c (fun e' w' => I e' w' ∧ μ e' w' < μ e w) Kx Kr e w) : WP P N (.loop c) Kn Kx Kr e w :=
  ⟨fun a h1 h2 h3 => wp_loop (fun a w => a.tmps.size = N ∧ a.defers = [] ∧ I (envOf a) w) (fun a w => μ (envOf a) w) ⟨h2, h3, h1 ▸ h0⟩ fun a w hI =>
    Code.wp_mono (fun ex a' w' hp => by
      cases ex <;> simp only [post, Exit.then] at hp ⊢ <;> try exact hp
      exact ⟨⟨hp.1, hp.2.1, hp.2.2.1⟩, hp.2.2.2⟩) ((h _ w hI.2.2).run a rfl hI.1 hI.2.1)⟩
/-- slots of the list M are whatever u says, the others as e says -/
def mix (M : List Nat) (u e : Env) : Env := fun j => bif M.elem j then u j else e j
structure Agree (M : List Nat) (e' e : Env) : Prop where
  out : ∀ j, M.elem j = false → e' j = e j
theorem Agree.refl (M : List Nat) (e : Env) : Agree M e e := ⟨fun _ _ => rfl⟩
theorem Agree.mix (M : List Nat) (u e : Env) : Agree M (mix M u e) e := ⟨fun j hj => by simp only [W.mix, hj]; rfl⟩
theorem Agree.mix2 {M M2 : List Nat} {u e' e : Env} (hs : M2.all (fun j => M.elem j) = true) (h : Agree M e' e) : Agree M (W.mix M2 u e') e := ⟨fun j hj => by
  simp only [W.mix]
  cases hm : M2.elem j with
  | false => exact h.out j hj
  | true =>
    have := List.all_eq_true.1 hs j (by simpa using hm)
    rw [this] at hj; cases hj⟩
theorem Agree.upd {M : List Nat} {d : Nat} {v : Value} {e' e : Env} (hd : M.elem d = true) (h : Agree M e' e) : Agree M (upd e' d v) e := ⟨fun j hj => by
  simp only [W.upd]
  cases hb : Nat.beq j d with
  | false => exact h.out j hj
  | true => have : j = d := Nat.eq_of_beq_eq_true hb
            subst this; rw [hd] at hj; cases hj⟩
theorem Agree.eq {M : List Nat} {e' e : Env} (h : Agree M e' e) : e' = W.mix M e' e := by
  funext j; simp only [W.mix]; cases hj : M.elem j with
  | false => exact h.out j hj
  | true => rfl
/-- THE RULE FOR LOOPS: M: the slots that the body writes; g: a number that goes down; I: the invariant, on a frame of which only the slots of M count -/
theorem WP.loop {c : Code} (M : List Nat) (I : Nat → Env → World → Prop) (g0 : Nat) (h0 : I g0 e w)
    (h : ∀ g u w, I g u w → WP P N c (fun e' w' => Agree M e' e ∧ ∃ g', g' < g ∧ I g' e' w') Kx Kr (W.mix M u e) w) : WP P N (.loop c) Kn Kx Kr e w :=
  ⟨fun a h1 h2 h3 => wp_loop_ghost (fun n a w => a.tmps.size = N ∧ a.defers = [] ∧ Agree M (envOf a) e ∧ I n (envOf a) w) g0 ⟨h2, h3, h1 ▸ Agree.refl M _, h1 ▸ h0⟩ fun n a w hI =>
    Code.wp_mono (fun ex a' w' hp => by
      cases ex <;> simp only [post, Exit.then] at hp ⊢ <;> try exact hp
      obtain ⟨p1, p2, p3, g', p4, p5⟩ := hp
      exact ⟨g', p4, p1, p2, p3, p5⟩) ((h n (envOf a) w hI.2.2.2).run a hI.2.2.1.eq hI.1 hI.2.1)⟩
/-- a known slot, written out -/
theorem upd_same {t : Nat} {v : Value} {e : Env} (h : e t = v) : upd e t v = e := by
  funext j; simp only [upd]; cases hb : Nat.beq j t with
  | false => rfl
  | true => have : j = t := Nat.eq_of_beq_eq_true hb
            subst this; exact h.symm
theorem WP.know {c : Code} {t : Nat} {v : Value} (h : e t = v) (hw : WP P N c Kn Kx Kr (upd e t v) w) : WP P N c Kn Kx Kr e w := by rw [upd_same h] at hw; exact hw

/-! ### calls -/
def resOf (e : Env) : List ResultVar → Option Value
  | [.tmp t] => some (e t)
  | [.tmp t, .tmp u] => some (.tuple #[e t, e u])
  | [.tmp t, .tmp u, .tmp v] => some (.tuple #[e t, e u, e v])
  | [.tmp t, .tmp u, .tmp v, .tmp x] => some (.tuple #[e t, e u, e v, e x])
  | [] => some (.tuple #[])
  | _ => none
theorem results_of {fn : Func} {l : List ResultVar} (hl : fn.results = l.toArray) {tmps : Array Value} {v : Value} (h : resOf (fun t => tmps.getD t undef) l = some v) (w : World) :
    (results fn tmps).run P w = .ok v w := by
  unfold results
  rw [hl]
  unfold resOf at h
  split at h <;> cases h <;> simp
def envAt (args : List Value) : Env := fun j => (args[j]?).getD undef
theorem Calls.ofWP {f : FuncId} {fn : Func} {c : Code} {args : List Value} {l : List ResultVar} {N : Nat} {R : Ending → World → Prop}
    (hf : P.funcs[f]? = some fn) (hb : fn.body = some c) (hl : fn.results = l.toArray) (hN : fn.ntmps = N) (hle : Nat.ble args.length N = true)
    (h : WP P N c (fun e w => ∃ v, resOf e l = some v ∧ R (.returned v) w) NoX (fun e w => ∃ v, resOf e l = some v ∧ R (.returned v) w) (envAt args) w) :
    Calls P f args.toArray w R := by
  have hle' : args.length ≤ N := by simpa using hle
  refine calls_of_wp hf hb (Code.wp_mono (fun ex a w hp => ?_) (h.run _ ?_ ?_ rfl))
  · cases ex <;> simp only [post, NoX] at hp <;> simp only [bodyPost]
    · obtain ⟨_, h2, v, h3, h4⟩ := hp
      exact ⟨h2, v, results_of hl h3 w, h4⟩
    · exact hp.2.2
    · obtain ⟨_, h2, v, h3, h4⟩ := hp
      exact ⟨h2, v, results_of hl h3 w, h4⟩
  · funext j
    simp only [envOf, envAt]
    by_cases hj : j < args.length
    · simp [hj, Array.getElem?_append]
    · simp [hj, Array.getElem?_append, Array.getElem?_replicate]
      split <;> rfl
  · simp [hN]; omega
end

/-! ### what is known of memory -/
structure Blk where
  g : Nat
  T : TypeId
  cs : List Value
/-- what is known of the world w: the blocks of L hold just what L says (none frozen); all other blocks of w0, but those of S, are as they were in w0 -/
structure SH (w0 : World) (S : List Nat) (w : World) (L : List Blk) : Prop where
  os : w.os = w0.os
  tape : w.tape = w0.tape
  output : w.output = w0.output
  size : w0.heap.size ≤ w.heap.size
  low : ∀ k, k < w0.heap.size → k ∉ S → w.heap[k]? = w0.heap[k]?
  own : ∀ b ∈ L, w.heap[b.g]? = some (.cells b.cs.toArray b.T (0, 0))
  may : ∀ b ∈ L, w0.heap.size ≤ b.g ∨ b.g ∈ S
  nodup : (L.map (·.g)).Nodup
theorem SH.refl (w : World) : SH w [] w [] := ⟨rfl, rfl, rfl, Nat.le_refl _, fun _ _ _ => rfl, by simp, by simp, by simp⟩
theorem SH.below {w0 w : World} {L : List Blk} (h : SH w0 [] w L) : Below w0.heap.size w0 w := ⟨h.os, h.tape, h.output, h.size, fun k hk => h.low k hk (by simp)⟩
theorem SH.lt {w0 w : World} {S : List Nat} {L : List Blk} (h : SH w0 S w L) {b : Blk} (hb : b ∈ L) : b.g < w.heap.size := by
  rcases Nat.lt_or_ge b.g w.heap.size with hlt | hge
  · exact hlt
  · have := h.own b hb; rw [Array.getElem?_eq_none hge] at this; cases this
theorem SH.toBelow {w0 w w' : World} {S : List Nat} {L : List Blk} (h : SH w0 S w L) (hb : Below w.heap.size w w') : SH w0 S w' L where
  os := hb.os.trans h.os
  tape := hb.tape.trans h.tape
  output := hb.output.trans h.output
  size := Nat.le_trans h.size hb.size
  low k hk hS := (hb.block k (Nat.lt_of_lt_of_le hk h.size)).trans (h.low k hk hS)
  own b hm := (hb.block _ (h.lt hm)).trans (h.own b hm)
  may := h.may
  nodup := h.nodup
theorem SH.ldL {w0 w : World} {S : List Nat} {L : List Blk} (h : SH w0 S w L) (i : Nat) {b : Blk} (hi : L[i]? = some b) (k : Nat) {v : Value} (hk : b.cs[k]? = some v) : w.cell? ⟨b.g, k, none⟩ = some v := by
  have hm : b ∈ L := List.mem_of_getElem? hi
  have := h.own b hm
  simp [World.cell?, this, hk]
theorem cell_lt {w : World} {a : Addr} {v : Value} (h : w.cell? a = some v) : a.block < w.heap.size := by
  rcases Nat.lt_or_ge a.block w.heap.size with hlt | hge
  · exact hlt
  · simp [World.cell?, Array.getElem?_eq_none hge] at h
theorem SH.ld0 {w0 w : World} {L : List Blk} (h : SH w0 [] w L) {a : Addr} {v : Value} (hc : w0.cell? a = some v) : w.cell? a = some v :=
  (h.below.cell (cell_lt hc)).trans hc
theorem cell_below {w w' : World} (hb : Below w.heap.size w w') {a : Addr} {v : Value} (hc : w.cell? a = some v) : w'.cell? a = some v := (hb.cell (cell_lt hc)).trans hc
theorem SH.drop {w0 w : World} {S : List Nat} {L : List Blk} (h : SH w0 S w L) {L' : List Blk} (hs : L'.Sublist L) : SH w0 S w L' :=
  ⟨h.os, h.tape, h.output, h.size, h.low, fun b hb => h.own b (hs.subset hb), fun b hb => h.may b (hs.subset hb), (hs.map _).nodup h.nodup⟩
theorem SH.alloc {w0 w : World} {S : List Nat} {L : List Blk} (h : SH w0 S w L) (T : TypeId) (cs : List Value) :
    SH w0 S (w.alloc (.cells cs.toArray T)) (⟨w.heap.size, T, cs⟩ :: L) where
  os := h.os
  tape := h.tape
  output := h.output
  size := by
    show w0.heap.size ≤ (w.heap.push _).size
    rw [Array.size_push]; have := h.size; omega
  low k hk hS := (Below.heap_alloc w _ k (Nat.lt_of_lt_of_le hk h.size)).trans (h.low k hk hS)
  own b hm := by
    rcases List.mem_cons.1 hm with rfl | hm
    · show (w.heap.push _)[w.heap.size]? = _
      simp
    · exact (Below.heap_alloc w _ b.g (h.lt hm)).trans (h.own b hm)
  may b hm := by
    rcases List.mem_cons.1 hm with rfl | hm
    · exact .inl h.size
    · exact h.may b hm
  nodup := by
    simp only [List.map_cons, List.nodup_cons]
    refine ⟨fun hc => ?_, h.nodup⟩
    obtain ⟨b, hb, he⟩ := List.mem_map.1 hc
    have := h.lt hb; omega
theorem SH.drew {w0 w : World} {S : List Nat} {L : List Blk} (h : SH w0 S w L) : SH w0 S { w with drawn := w.drawn + 1 } L := ⟨h.os, h.tape, h.output, h.size, h.low, h.own, h.may, h.nodup⟩
/-- a store into a known block -/
theorem SH.set {w0 w : World} {S : List Nat} {L : List Blk} (h : SH w0 S w L) (i : Nat) {b : Blk} (hi : L[i]? = some b) (k : Nat) (v : Value) :
    SH w0 S (w.setCell ⟨b.g, k, none⟩ v) (L.set i ⟨b.g, b.T, b.cs.set k v⟩) := by
  have hlen : i < L.length := (List.getElem?_eq_some_iff.1 hi).1
  have hgi : L[i] = b := (List.getElem?_eq_some_iff.1 hi).2
  have hm : b ∈ L := List.mem_of_getElem? hi
  have hmap : (L.set i ⟨b.g, b.T, b.cs.set k v⟩).map (·.g) = L.map (·.g) := by
    rw [List.map_set]
    have : b.g = (L.map (·.g))[i]'(by simpa using hlen) := by simp [hgi]
    rw [show (Blk.g ⟨b.g, b.T, b.cs.set k v⟩) = (L.map (·.g))[i]'(by simpa using hlen) from this, List.set_getElem_self]
  refine ⟨h.os, h.tape, h.output, by simpa [World.setCell] using h.size, fun j hj hS => ?_, fun c hc => ?_, fun c hc => ?_, by rw [hmap]; exact h.nodup⟩
  · rw [Below.heap_setCell _ _ _ j (fun he => ?_)]
    · exact h.low j hj hS
    · have he : j = b.g := he
      subst he
      rcases h.may b hm with h1 | h1
      · omega
      · exact hS h1
  · rcases List.mem_iff_getElem?.1 hc with ⟨j, hj⟩
    rw [List.getElem?_set] at hj
    split at hj
    · rename_i hij
      subst hij
      cases hj
      have := h.own b hm
      simp only [World.setCell]
      simp [Array.getElem?_modify, this]
    · rename_i hij
      have hmc : c ∈ L := List.mem_of_getElem? hj
      rw [Below.heap_setCell _ _ _ c.g (fun he => ?_)]
      · exact h.own c hmc
      · have he : c.g = b.g := he
        have hjl : j < L.length := (List.getElem?_eq_some_iff.1 hj).1
        have hcj : L[j] = c := (List.getElem?_eq_some_iff.1 hj).2
        have hn := h.nodup
        rw [List.nodup_iff_pairwise_ne, List.pairwise_iff_getElem] at hn
        rcases Nat.lt_or_gt_of_ne hij with hlt | hgt
        · exact hn i j (by simpa) (by simpa) hlt (by simp [hgi, hcj, he])
        · exact hn j i (by simpa) (by simpa) hgt (by simp [hgi, hcj, he])
  · have : c.g ∈ L.map (·.g) := by rw [← hmap]; exact List.mem_map_of_mem hc
    obtain ⟨d, hd, he⟩ := List.mem_map.1 this
    rw [← he]; exact h.may d hd
theorem SH.notFrozen {w0 w : World} {S : List Nat} {L : List Blk} (h : SH w0 S w L) {b : Blk} (hm : b ∈ L) (k : Nat) : w.frozen? ⟨b.g, k, none⟩ = false := by
  have := h.own b hm
  simp [World.frozen?, this]
end Go.W
