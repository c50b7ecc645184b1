/-
  A small logic for walking loaded Go functions: the frame is a function from slots to values, the code is walked by rules, and the world is a variable
  about which one hypothesis 'SH w0 S w L' says all that is known: blocks of the list L hold just what the list says, and everything else that was there in w0 (but for the blocks S) is unchanged.
-/
import Derived.WalkKit
import Derived.Still
import Derived.StillTail
import Derived.Deep.Quiet
import Derived.Deep.LoopGhost
import Derived.KernelRfl
import Derived.Maps.AppendAt
set_option linter.all false
namespace Go.W
open Go.RowKit
abbrev Env := Nat → Value
def jch (a : Act) : Env := fun t => a.tmps.getD t undef
def ev (e : Env) : Operand → Value
  | .tmp t => e t
  | .const v => v
  | .global g => .pointer (some ⟨g, 0, none⟩)
  | .func f => .func (.func f) #[] #[]
def upd (e : Env) (d : Nat) (v : Value) : Env := fun j => bif Nat.beq j d then v else e j
theorem jbW (a : Act) : a.eval = ev (jch a) := by funext x; cases x <;> rfl
theorem jbt {a : Act} {d N : Nat} (v : Value) (hs : a.tmps.size = N) (hd : Nat.blt d N = true) : jch (a.put (some d) v) = upd (jch a) d v := by
  have hd' : d < a.tmps.size := by simp [Nat.blt] at hd; omega
  funext j
  simp only [jch, Act.put, upd]
  by_cases h : j = d
  · subst h; simp [hd']
  · have hb : Nat.beq j d = false := by
      cases hx : Nat.beq j d with
      | false => rfl
      | true => exact absurd (Nat.eq_of_beq_eq_true hx) h
    rw [hb]; simp [Ne.symm h]
theorem size_put (a : Act) (d : Option Tmp) (v : Value) : (a.put d v).tmps.size = a.tmps.size := by cases d <;> simp [Act.put]
theorem jaU (a : Act) (d : Option Tmp) (v : Value) : (a.put d v).defers = a.defers := by cases d <;> rfl
def post (N : Nat) (Kn : Env → World → Prop) (Kx : Nat → Env → World → Prop) (Kr : Env → World → Prop) : Exit → Act → World → Prop
  | .normal, a, w => a.tmps.size = N ∧ a.defers = [] ∧ Kn (jch a) w
  | .exit id, a, w => a.tmps.size = N ∧ a.defers = [] ∧ Kx id (jch a) w
  | .ret, a, w => a.tmps.size = N ∧ a.defers = [] ∧ Kr (jch a) w
  | _, _, _ => False
structure WP (P : Program) (N : Nat) (c : Code) (Kn : Env → World → Prop) (Kx : Nat → Env → World → Prop) (Kr : Env → World → Prop) (e : Env) (w : World) : Prop where
  run : ∀ a : Act, jch a = e → a.tmps.size = N → a.defers = [] → c.wp P (post N Kn Kx Kr) a w
def NoX : Nat → Env → World → Prop := fun _ _ _ => False
def NoR : Env → World → Prop := fun _ _ => False
structure XB (id : Nat) (Kn : Env → World → Prop) (Kx : Nat → Env → World → Prop) (j : Nat) (e : Env) (w : World) : Prop where
  out : if j = id then Kn e w else Kx j e w
section
variable {P : Program} {N : Nat} {Kn : Env → World → Prop} {Kx : Nat → Env → World → Prop} {Kr : Env → World → Prop} {e : Env} {w : World}
theorem XB.hit {id : Nat} (h : Kn e w) : XB id Kn Kx id e w := ⟨by simpa using h⟩
theorem XB.miss {id j : Nat} (hj : Nat.beq j id = false) (h : Kx j e w) : XB id Kn Kx j e w := ⟨by rw [if_neg (fun he => by subst he; rw [Nat.beq_refl] at hj; cases hj)]; exact h⟩
theorem jll (N : Nat) (y : Code) : ∀ ex a w, post N (fun e w => WP P N y Kn Kx Kr e w) Kx Kr ex a w → Exit.then (y.wp P (post N Kn Kx Kr)) (post N Kn Kx Kr) ex a w := by
  intro ex a w h
  cases ex <;> simp only [post, Exit.then] at h ⊢ <;> try exact h
  exact h.2.2.run _ rfl h.1 h.2.1
theorem WP.seq {x y : Code} (h : WP P N x (fun e w => WP P N y Kn Kx Kr e w) Kx Kr e w) : WP P N (.seq x y) Kn Kx Kr e w :=
  ⟨fun a h1 h2 h3 => wp_seq (Code.wp_mono (jll N y) (h.run a h1 h2 h3))⟩
theorem WP.skip (h : Kn e w) : WP P N .skip Kn Kx Kr e w := ⟨fun _ h1 h2 h3 => wp_skip ⟨h2, h3, h1 ▸ h⟩⟩
theorem WP.label {l : Nat} (h : Kn e w) : WP P N (.label l) Kn Kx Kr e w := ⟨fun _ h1 h2 h3 => wp_label ⟨h2, h3, h1 ▸ h⟩⟩
theorem WP.exit {id : Nat} (h : Kx id e w) : WP P N (.exit id) Kn Kx Kr e w := ⟨fun _ h1 h2 h3 => wp_exit ⟨h2, h3, h1 ▸ h⟩⟩
theorem WP.ret (h : Kr e w) : WP P N .ret Kn Kx Kr e w := ⟨fun _ h1 h2 h3 => wp_ret ⟨h2, h3, h1 ▸ h⟩⟩
theorem WP.block {id : Nat} {c : Code} (h : WP P N c Kn (XB id Kn Kx) Kr e w) : WP P N (.block id c) Kn Kx Kr e w :=
  ⟨fun a h1 h2 h3 => wp_block (Code.wp_mono (fun ex a w h => by
    cases ex <;> simp only [post, Exit.inBlock] at h ⊢ <;> try exact h
    rename_i j
    by_cases hj : j = id
    · have := h.2.2.out; simp only [hj, if_true] at this ⊢; exact ⟨h.1, h.2.1, this⟩
    · have := h.2.2.out; simp only [hj, if_false] at this ⊢; exact ⟨h.1, h.2.1, this⟩) (h.run a h1 h2 h3))⟩
theorem WP.cond {c : Operand} {x y : Code} {b : Bool} (hc : ev e c = .bool b) (ht : b = true → WP P N x Kn Kx Kr e w) (hf : b = false → WP P N y Kn Kx Kr e w) : WP P N (.cond c x y) Kn Kx Kr e w :=
  ⟨fun a h1 h2 h3 => wp_cond_split (t := b) (by rw [jbW, h1]; exact hc) (fun h => (ht h).run a h1 h2 h3) (fun h => (hf h).run a h1 h2 h3)⟩
theorem WP.cond_f {c : Operand} {x y : Code} (hc : ev e c = .bool false) (hf : WP P N y Kn Kx Kr e w) : WP P N (.cond c x y) Kn Kx Kr e w := WP.cond hc (fun h => by cases h) (fun _ => hf)
theorem WP.mono {c : Code} {Kn' : Env → World → Prop} {Kx' : Nat → Env → World → Prop} {Kr' : Env → World → Prop} (h : WP P N c Kn Kx Kr e w)
    (hn : ∀ e w, Kn e w → Kn' e w) (hx : ∀ j e w, Kx j e w → Kx' j e w) (hr : ∀ e w, Kr e w → Kr' e w) : WP P N c Kn' Kx' Kr' e w :=
  ⟨fun a h1 h2 h3 => Code.wp_mono (fun ex a w h => by
    cases ex <;> simp only [post] at h ⊢
    · exact ⟨h.1, h.2.1, hn _ _ h.2.2⟩
    · exact ⟨h.1, h.2.1, hx _ _ _ h.2.2⟩
    · exact ⟨h.1, h.2.1, hr _ _ h.2.2⟩) (h.run a h1 h2 h3)⟩
def mix (M : List Nat) (u e : Env) : Env := fun j => bif M.elem j then u j else e j
structure Agree (M : List Nat) (e' e : Env) : Prop where
  out : ∀ j, M.elem j = false → e' j = e j
theorem Agree.refl (M : List Nat) (e : Env) : Agree M e e := ⟨fun _ _ => rfl⟩
theorem Agree.mix (M : List Nat) (u e : Env) : Agree M (mix M u e) e := ⟨fun j hj => by simp only [W.mix, hj]; rfl⟩
theorem Agree.mix2 {M M2 : List Nat} {u e' e : Env} (hs : M2.all (fun j => M.elem j) = true) (h : Agree M e' e) : Agree M (W.mix M2 u e') e := ⟨fun j hj => by
  simp only [W.mix]
  cases hm : M2.elem j with
  | false => exact h.out j hj
  | true =>
    have := List.all_eq_true.1 hs j (by simpa using hm)
    rw [this] at hj; cases hj⟩
theorem Agree.upd {M : List Nat} {d : Nat} {v : Value} {e' e : Env} (hd : M.elem d = true) (h : Agree M e' e) : Agree M (upd e' d v) e := ⟨fun j hj => by
  simp only [W.upd]
  cases hb : Nat.beq j d with
  | false => exact h.out j hj
  | true => have : j = d := Nat.eq_of_beq_eq_true hb
            subst this; rw [hd] at hj; cases hj⟩
theorem Agree.eq {M : List Nat} {e' e : Env} (h : Agree M e' e) : e' = W.mix M e' e := by
  funext j; simp only [W.mix]; cases hj : M.elem j with
  | false => exact h.out j hj
  | true => rfl
theorem WP.loop {c : Code} (M : List Nat) (I : Nat → Env → World → Prop) (g0 : Nat) (h0 : I g0 e w)
    (h : ∀ g u w, I g u w → WP P N c (fun e' w' => Agree M e' e ∧ ∃ g', g' < g ∧ I g' e' w') Kx Kr (W.mix M u e) w) : WP P N (.loop c) Kn Kx Kr e w :=
  ⟨fun a h1 h2 h3 => wp_loop_ghost (fun n a w => a.tmps.size = N ∧ a.defers = [] ∧ Agree M (jch a) e ∧ I n (jch a) w) g0 ⟨h2, h3, h1 ▸ Agree.refl M _, h1 ▸ h0⟩ fun n a w hI =>
    Code.wp_mono (fun ex a' w' hp => by
      cases ex <;> simp only [post, Exit.then] at hp ⊢ <;> try exact hp
      obtain ⟨p1, p2, p3, g', p4, p5⟩ := hp
      exact ⟨g', p4, p1, p2, p3, p5⟩) ((h n (jch a) w hI.2.2.2).run a hI.2.2.1.eq hI.1 hI.2.1)⟩
theorem upd_same {t : Nat} {v : Value} {e : Env} (h : e t = v) : upd e t v = e := by
  funext j; simp only [upd]; cases hb : Nat.beq j t with
  | false => rfl
  | true => have : j = t := Nat.eq_of_beq_eq_true hb
            subst this; exact h.symm
theorem WP.know {c : Code} {t : Nat} {v : Value} (h : e t = v) (hw : WP P N c Kn Kx Kr (upd e t v) w) : WP P N c Kn Kx Kr e w := by rw [upd_same h] at hw; exact hw
def jiU (e : Env) : List ResultVar → Option Value
  | [.tmp t] => some (e t)
  | [.tmp t, .tmp u] => some (.tuple #[e t, e u])
  | [.tmp t, .tmp u, .tmp v] => some (.tuple #[e t, e u, e v])
  | [.tmp t, .tmp u, .tmp v, .tmp x] => some (.tuple #[e t, e u, e v, e x])
  | [] => some (.tuple #[])
  | _ => none
theorem jfD {fn : Func} {l : List ResultVar} (hl : fn.results = l.toArray) {tmps : Array Value} {v : Value} (h : jiU (fun t => tmps.getD t undef) l = some v) (w : World) :
    (results fn tmps).run P w = .ok v w := by
  unfold results
  rw [hl]
  unfold jiU at h
  split at h <;> cases h <;> simp
def jmc (args : List Value) : Env := fun j => (args[j]?).getD undef
theorem Calls.ofWP {f : FuncId} {fn : Func} {c : Code} {args : List Value} {l : List ResultVar} {N : Nat} {R : Ending → World → Prop}
    (hf : P.funcs[f]? = some fn) (hb : fn.body = some c) (hl : fn.results = l.toArray) (hN : fn.ntmps = N) (hle : Nat.ble args.length N = true)
    (h : WP P N c (fun e w => ∃ v, jiU e l = some v ∧ R (.returned v) w) NoX (fun e w => ∃ v, jiU e l = some v ∧ R (.returned v) w) (jmc args) w) :
    Calls P f args.toArray w R := by
  have hle' : args.length ≤ N := by simpa using hle
  refine calls_of_wp hf hb (Code.wp_mono (fun ex a w hp => ?_) (h.run _ ?_ ?_ rfl))
  · cases ex <;> simp only [post, NoX] at hp <;> simp only [bodyPost]
    · obtain ⟨_, h2, v, h3, h4⟩ := hp
      exact ⟨h2, v, jfD hl h3 w, h4⟩
    · exact hp.2.2
    · obtain ⟨_, h2, v, h3, h4⟩ := hp
      exact ⟨h2, v, jfD hl h3 w, h4⟩
  · funext j
    simp only [jch, jmc]
    by_cases hj : j < args.length
    · simp [hj, Array.getElem?_append]
    · simp [hj, Array.getElem?_append, Array.getElem?_replicate]
      split <;> rfl
  · simp [hN]; omega
end
structure Blk where
  g : Nat
  T : TypeId
  cs : List Value
structure SH (w0 : World) (S : List Nat) (w : World) (L : List Blk) : Prop where
  os : w.os = w0.os
  tape : w.tape = w0.tape
  output : w.output = w0.output
  size : w0.heap.size ≤ w.heap.size
  low : ∀ k, k < w0.heap.size → k ∉ S → w.heap[k]? = w0.heap[k]?
  own : ∀ b ∈ L, w.heap[b.g]? = some (.cells b.cs.toArray b.T (0, 0))
  may : ∀ b ∈ L, w0.heap.size ≤ b.g ∨ b.g ∈ S
  nodup : (L.map (·.g)).Nodup
theorem SH.refl (w : World) : SH w [] w [] := ⟨rfl, rfl, rfl, Nat.le_refl _, fun _ _ _ => rfl, by simp, by simp, by simp⟩
theorem SH.below {w0 w : World} {L : List Blk} (h : SH w0 [] w L) : Below w0.heap.size w0 w := ⟨h.os, h.tape, h.output, h.size, fun k hk => h.low k hk (by simp)⟩
theorem SH.lt {w0 w : World} {S : List Nat} {L : List Blk} (h : SH w0 S w L) {b : Blk} (hb : b ∈ L) : b.g < w.heap.size := by
  rcases Nat.lt_or_ge b.g w.heap.size with hlt | hge
  · exact hlt
  · have := h.own b hb; rw [Array.getElem?_eq_none hge] at this; cases this
theorem SH.toBelow {w0 w w' : World} {S : List Nat} {L : List Blk} (h : SH w0 S w L) (hb : Below w.heap.size w w') : SH w0 S w' L where
  os := hb.os.trans h.os
  tape := hb.tape.trans h.tape
  output := hb.output.trans h.output
  size := Nat.le_trans h.size hb.size
  low k hk hS := (hb.block k (Nat.lt_of_lt_of_le hk h.size)).trans (h.low k hk hS)
  own b hm := (hb.block _ (h.lt hm)).trans (h.own b hm)
  may := h.may
  nodup := h.nodup
theorem SH.ldL {w0 w : World} {S : List Nat} {L : List Blk} (h : SH w0 S w L) (i : Nat) {b : Blk} (hi : L[i]? = some b) (k : Nat) {v : Value} (hk : b.cs[k]? = some v) : w.cell? ⟨b.g, k, none⟩ = some v := by
  have hm : b ∈ L := List.mem_of_getElem? hi
  have := h.own b hm
  simp [World.cell?, this, hk]
theorem jeA {w : World} {a : Addr} {v : Value} (h : w.cell? a = some v) : a.block < w.heap.size := by
  rcases Nat.lt_or_ge a.block w.heap.size with hlt | hge
  · exact hlt
  · simp [World.cell?, Array.getElem?_eq_none hge] at h
theorem SH.ld0 {w0 w : World} {L : List Blk} (h : SH w0 [] w L) {a : Addr} {v : Value} (hc : w0.cell? a = some v) : w.cell? a = some v :=
  (h.below.cell (jeA hc)).trans hc
theorem cell_below {w w' : World} (hb : Below w.heap.size w w') {a : Addr} {v : Value} (hc : w.cell? a = some v) : w'.cell? a = some v := (hb.cell (jeA hc)).trans hc
theorem SH.drop {w0 w : World} {S : List Nat} {L : List Blk} (h : SH w0 S w L) {L' : List Blk} (hs : L'.Sublist L) : SH w0 S w L' :=
  ⟨h.os, h.tape, h.output, h.size, h.low, fun b hb => h.own b (hs.subset hb), fun b hb => h.may b (hs.subset hb), (hs.map _).nodup h.nodup⟩
theorem SH.alloc {w0 w : World} {S : List Nat} {L : List Blk} (h : SH w0 S w L) (T : TypeId) (cs : List Value) :
    SH w0 S (w.alloc (.cells cs.toArray T)) (⟨w.heap.size, T, cs⟩ :: L) where
  os := h.os
  tape := h.tape
  output := h.output
  size := by
    show w0.heap.size ≤ (w.heap.push _).size
    rw [Array.size_push]; have := h.size; omega
  low k hk hS := (Below.heap_alloc w _ k (Nat.lt_of_lt_of_le hk h.size)).trans (h.low k hk hS)
  own b hm := by
    rcases List.mem_cons.1 hm with rfl | hm
    · show (w.heap.push _)[w.heap.size]? = _
      simp
    · exact (Below.heap_alloc w _ b.g (h.lt hm)).trans (h.own b hm)
  may b hm := by
    rcases List.mem_cons.1 hm with rfl | hm
    · exact .inl h.size
    · exact h.may b hm
  nodup := by
    simp only [List.map_cons, List.nodup_cons]
    refine ⟨fun hc => ?_, h.nodup⟩
    obtain ⟨b, hb, he⟩ := List.mem_map.1 hc
    have := h.lt hb; omega
theorem SH.drew {w0 w : World} {S : List Nat} {L : List Blk} (h : SH w0 S w L) : SH w0 S { w with drawn := w.drawn + 1 } L := ⟨h.os, h.tape, h.output, h.size, h.low, h.own, h.may, h.nodup⟩
theorem SH.set {w0 w : World} {S : List Nat} {L : List Blk} (h : SH w0 S w L) (i : Nat) {b : Blk} (hi : L[i]? = some b) (k : Nat) (v : Value) :
    SH w0 S (w.setCell ⟨b.g, k, none⟩ v) (L.set i ⟨b.g, b.T, b.cs.set k v⟩) := by
  have hlen : i < L.length := (List.getElem?_eq_some_iff.1 hi).1
  have hgi : L[i] = b := (List.getElem?_eq_some_iff.1 hi).2
  have hm : b ∈ L := List.mem_of_getElem? hi
  have hmap : (L.set i ⟨b.g, b.T, b.cs.set k v⟩).map (·.g) = L.map (·.g) := by
    rw [List.map_set]
    have : b.g = (L.map (·.g))[i]'(by simpa using hlen) := by simp [hgi]
    rw [show (Blk.g ⟨b.g, b.T, b.cs.set k v⟩) = (L.map (·.g))[i]'(by simpa using hlen) from this, List.set_getElem_self]
  refine ⟨h.os, h.tape, h.output, by simpa [World.setCell] using h.size, fun j hj hS => ?_, fun c hc => ?_, fun c hc => ?_, by rw [hmap]; exact h.nodup⟩
  · rw [Below.heap_setCell _ _ _ j (fun he => ?_)]
    · exact h.low j hj hS
    · have he : j = b.g := he
      subst he
      rcases h.may b hm with h1 | h1
      · omega
      · exact hS h1
  · rcases List.mem_iff_getElem?.1 hc with ⟨j, hj⟩
    rw [List.getElem?_set] at hj
    split at hj
    · rename_i hij
      subst hij
      cases hj
      have := h.own b hm
      simp only [World.setCell]
      simp [Array.getElem?_modify, this]
    · rename_i hij
      have hmc : c ∈ L := List.mem_of_getElem? hj
      rw [Below.heap_setCell _ _ _ c.g (fun he => ?_)]
      · exact h.own c hmc
      · have he : c.g = b.g := he
        have hjl : j < L.length := (List.getElem?_eq_some_iff.1 hj).1
        have hcj : L[j] = c := (List.getElem?_eq_some_iff.1 hj).2
        have hn := h.nodup
        rw [List.nodup_iff_pairwise_ne, List.pairwise_iff_getElem] at hn
        rcases Nat.lt_or_gt_of_ne hij with hlt | hgt
        · exact hn i j (by simpa) (by simpa) hlt (by simp [hgi, hcj, he])
        · exact hn j i (by simpa) (by simpa) hgt (by simp [hgi, hcj, he])
  · have : c.g ∈ L.map (·.g) := by rw [← hmap]; exact List.mem_map_of_mem hc
    obtain ⟨d, hd, he⟩ := List.mem_map.1 this
    rw [← he]; exact h.may d hd
theorem SH.notFrozen {w0 w : World} {S : List Nat} {L : List Blk} (h : SH w0 S w L) {b : Blk} (hm : b ∈ L) (k : Nat) : w.frozen? ⟨b.g, k, none⟩ = false := by
  have := h.own b hm
  simp [World.frozen?, this]
end Go.W
namespace Go.W
open Go.RowKit
def updo (e : Env) : Option Nat → Value → Env
 | some d, v => upd e d v
 | none, _ => e
theorem jek {a : Act} {N : Nat} (d : Option Nat) (v : Value) (hs : a.tmps.size = N) (hd : (d.all fun d => Nat.blt d N) = true) : jch (a.put d v) = updo (jch a) d v := by
 cases d with
 | none => rfl
 | some d => exact jbt v hs (by simpa using hd)
inductive Md where
 | plain | still | quiet
structure OPS (P : Program) (N : Nat) (m : Md) (ops : Array Oper) (K : Env → World → Prop) (l : List Oper) (e : Env) (w : World) : Prop where
 run : ∀ a : Act, jch a = e → a.tmps.size = N → a.defers = [] → match m with
  | .plain => wpList P ops (post N K NoX NoR) l a w
  | .still => wpStill P ops w (fun a' => a'.tmps.size = N ∧ a'.defers = [] ∧ K (jch a') w) l a
  | .quiet => wpQuiet P ops (fun w' => Below w.heap.size w w') (fun a' => a'.tmps.size = N ∧ a'.defers = [] ∧ ∀ w', Below w.heap.size w w' → K (jch a') w') l a
section
variable {P : Program} {N : Nat} {m : Md} {ops : Array Oper} {K : Env → World → Prop} {Kn : Env → World → Prop} {Kx : Nat → Env → World → Prop} {Kr : Env → World → Prop} {e : Env} {w : World} {rest : List Oper} {o : Oper}
theorem OPS.nil (h : K e w) : OPS P N .plain ops K [] e w := ⟨fun _ h1 h2 h3 => wpList_nil ⟨h2, h3, h1 ▸ h⟩⟩
theorem OPS.nil_s (h : K e w) : OPS P N .still ops K [] e w := ⟨fun _ h1 h2 h3 => wpStill_nil ⟨h2, h3, h1 ▸ h⟩⟩
theorem OPS.nil_q (h : ∀ w', Below w.heap.size w w' → K e w') : OPS P N .quiet ops K [] e w := ⟨fun _ h1 h2 h3 => wpQuiet_nil ⟨h2, h3, fun w' hb => h1 ▸ h w' hb⟩⟩
theorem jhD : ∀ ex a w, post N Kn NoX NoR ex a w → post N Kn Kx Kr ex a w := by
 intro ex a w h
 cases ex <;> simp only [post, NoX, NoR] at h ⊢ <;> try exact h
 ·exact h.2.2.elim
 ·exact h.2.2.elim
theorem jbS {Q Q' : Act → Prop} (hq : ∀ a, Q a → Q' a) : ∀ (l : List Oper) (a : Act), wpStill P ops w Q l a → wpStill P ops w Q' l a
 | [], _, h => hq _ h
 | o :: rest, a, h => by
  unfold wpStill at h ⊢
  split
  ·rename_i hw; rw [if_pos hw] at h; exact Oper.still_mono (jbS hq rest) h
  ·rename_i hw; rw [if_neg hw] at h; exact jbS hq rest _ h
theorem jbY {C : World → Prop} {Q Q' : Act → Prop} (hq : ∀ a, Q a → Q' a) : ∀ (l : List Oper) (a : Act), wpQuiet P ops C Q l a → wpQuiet P ops C Q' l a
 | [], _, h => hq _ h
 | o :: rest, a, h => by
  unfold wpQuiet at h ⊢
  split
  ·rename_i hw; rw [if_pos hw] at h; exact Oper.quiet_mono (jbY hq rest) h
  ·rename_i hw; rw [if_neg hw] at h; exact jbY hq rest _ h
theorem WP.region {id : Nat} {l : List Oper} (h : OPS P N .plain l.toArray Kn l e w) : WP P N (.region id l.toArray false) Kn Kx Kr e w :=
 ⟨fun a h1 h2 h3 => Code.wp_mono jhD (wp_region_lit (h.run a h1 h2 h3))⟩
theorem WP.region_still {id : Nat} {l : List Oper} (hm : P.follows .mixedOrders = true) (hB : Region.lexB .any l.toArray = true) (h : OPS P N .still l.toArray Kn l e { w with drawn := w.drawn + 1 }) : WP P N (.region id l.toArray true) Kn Kx Kr e w :=
 ⟨fun a h1 h2 h3 => wp_region_still_lit hm hB (h.run a h1 h2 h3)⟩
theorem WP.region_quiet {id : Nat} {l : List Oper} (hm : P.follows .mixedOrders = true) (hB : Region.lexB .any l.toArray = true) (h : OPS P N .quiet l.toArray Kn l e { w with drawn := w.drawn + 1 }) : WP P N (.region id l.toArray true) Kn Kx Kr e w :=
 ⟨fun a h1 h2 h3 => wp_region_quiet (C := fun w' => Below w.heap.size { w with drawn := w.drawn + 1 } w') hm hB (Below.refl _ _) (by
  refine (jbY ?_) _ _ (by simpa using h.run a h1 h2 h3)
  intro a' hh w' hw'
  exact ⟨hh.1, hh.2.1, hh.2.2 w' hw'⟩)⟩
theorem WP.region_tail {id : Nat} {l : List Oper} (n : Nat) (hm : P.follows .mixedOrders = true) (hB : Region.lexTailB .any l.toArray n = true)
  (h : OPS P N .still l.toArray (fun e w => OPS P N .plain l.toArray Kn (l.drop n) e w) (l.take n) e { w with drawn := w.drawn + 1 }) : WP P N (.region id l.toArray true) Kn Kx Kr e w :=
 ⟨fun a h1 h2 h3 => Code.wp_mono jhD (wp_region_still_tail n hm hB (by
  refine jbS ?_ _ _ (h.run a h1 h2 h3)
  intro a' hh
  exact hh.2.2.run a' rfl hh.1 hh.2.1))⟩
theorem WP.rstill {w0 : World} {S : List Nat} {L : List Blk} {id : Nat} {l : List Oper} (hm : P.follows .mixedOrders = true) (hB : Region.lexB .any l.toArray = true) (H : SH w0 S w L) (h : ∀ w', Below w.heap.size w w' → SH w0 S w' L → OPS P N .still l.toArray Kn l e w') : WP P N (.region id l.toArray true) Kn Kx Kr e w :=
 WP.region_still hm hB (h _ ⟨rfl, rfl, rfl, Nat.le_refl _, fun _ _ => rfl⟩ H.drew)
theorem WP.rquiet {w0 : World} {S : List Nat} {L : List Blk} {id : Nat} {l : List Oper} (hm : P.follows .mixedOrders = true) (hB : Region.lexB .any l.toArray = true) (H : SH w0 S w L) (h : ∀ w', Below w.heap.size w w' → SH w0 S w' L → OPS P N .quiet l.toArray Kn l e w') : WP P N (.region id l.toArray true) Kn Kx Kr e w :=
 WP.region_quiet hm hB (h _ ⟨rfl, rfl, rfl, Nat.le_refl _, fun _ _ => rfl⟩ H.drew)
theorem WP.rtail {w0 : World} {S : List Nat} {L : List Blk} {id : Nat} {l : List Oper} (n : Nat) (hm : P.follows .mixedOrders = true) (hB : Region.lexTailB .any l.toArray n = true) (H : SH w0 S w L)
  (h : ∀ w', Below w.heap.size w w' → SH w0 S w' L → OPS P N .still l.toArray (fun e w => OPS P N .plain l.toArray Kn (l.drop n) e w) (l.take n) e w') : WP P N (.region id l.toArray true) Kn Kx Kr e w :=
 WP.region_tail n hm hB (h _ ⟨rfl, rfl, rfl, Nat.le_refl _, fun _ _ => rfl⟩ H.drew)
theorem OPS.nilq {w0 : World} {S : List Nat} {L : List Blk} (H : SH w0 S w L) (h : ∀ w', Below w.heap.size w w' → SH w0 S w' L → K e w') : OPS P N .quiet ops K [] e w := OPS.nil_q fun w' hb => h w' hb (H.toBelow hb)
structure Ev (P : Program) (e : Env) (w : World) (ty : TypeId) (op : Op) (v : Value) : Prop where
 run : ∀ w', Below w.heap.size w w' → ∀ o : Oper, o.op = op → o.type = ty → (execOp (ev e) o).run P w' = .ok (.value v) w'
theorem ja1 (hg : o.guard = none) (y : Nat → Option Bool) : Region.wanted o y = true := by simp [Region.wanted, hg]
theorem OPS.val {d : Nat} {v : Value} (hg : o.guard = none) (hd : o.dst = some d) (hN : Nat.blt d N = true) (hE : Ev P e w o.type o.op v) (h : OPS P N m ops K rest (upd e d v) w) : OPS P N m ops K (o :: rest) e w :=
 ⟨fun a h1 h2 h3 => by
  have hn := h.run (a.put (some d) v) (by rw [jbt v h2 hN, h1]) (by rw [size_put]; exact h2) (by rw [jaU]; exact h3)
  have hr := fun w' hb => hE.run w' hb o rfl rfl
  rw [← h1, ← jbW] at hr
  cases m with
  | plain =>
   simp only at hn ⊢
   unfold wpList
   rw [if_pos (ja1 hg _)]
   refine .inl ?_
   unfold Oper.wp
   rw [hr w (Below.refl _ _)]
   simp only [Oper.upon, hd]
   exact hn
  | still =>
   simp only at hn ⊢
   unfold wpStill
   rw [if_pos (ja1 hg _)]
   unfold Oper.still
   rw [hr w (Below.refl _ _)]
   simp only [Oper.stillUpon, hd]
   exact ⟨trivial, hn⟩
  | quiet =>
   simp only at hn ⊢
   unfold wpQuiet
   rw [if_pos (ja1 hg _)]
   refine ⟨v, fun w' hb => ?_, by rw [hd]; exact hn⟩
   unfold Oper.quietAt
   rw [hr w' hb]
   exact ⟨rfl, rfl⟩⟩
@[irreducible] def gv (b want : Bool) (v : Value) : Value := if (b == want) = true then v else undef
theorem jcc {a : Act} {j dj : Nat} {b : Bool} (hj : ops[j]?.bind (·.dst) = some dj) (hb : jch a dj = .bool b) : yielded ops a.tmps j = some b := by
 unfold yielded
 simp only [jch, undef] at hb
 rw [hj]
 simp only [Option.bind_some]
 cases ht : a.tmps[dj]? with
 | none => simp [ht] at hb
 | some u => simp [ht] at hb; subst hb; rfl
theorem OPS.gval {d j dj : Nat} {want b : Bool} {v : Value} (hg : o.guard = some (j, want)) (hj : ops[j]?.bind (·.dst) = some dj) (hb : e dj = .bool b) (hd : o.dst = some d) (hN : Nat.blt d N = true)
  (hE : b = want → Ev P e w o.type o.op v) (h : OPS P N m ops K rest (upd e d (gv b want v)) w) : OPS P N m ops K (o :: rest) e w :=
 ⟨fun a h1 h2 h3 => by
  have hn := h.run (a.put (some d) (gv b want v)) (by rw [jbt _ h2 hN, h1]) (by rw [size_put]; exact h2) (by rw [jaU]; exact h3)
  have hy := jcc (a := a) hj (h1 ▸ hb)
  by_cases hw : b = want
  ·subst hw
   have hr := fun w' hb => (hE rfl).run w' hb o rfl rfl
   rw [← h1, ← jbW] at hr
   have hwt : Region.wanted o (yielded ops a.tmps) = true := by simp [Region.wanted, hg, hy]
   have hgv : gv b b v = v := by simp [gv]
   rw [hgv] at hn
   cases m with
   | plain =>
    simp only at hn ⊢
    unfold wpList
    rw [if_pos hwt]
    refine .inl ?_
    unfold Oper.wp
    rw [hr w (Below.refl _ _)]
    simp only [Oper.upon, hd]
    exact hn
   | still =>
    simp only at hn ⊢
    unfold wpStill
    rw [if_pos hwt]
    unfold Oper.still
    rw [hr w (Below.refl _ _)]
    simp only [Oper.stillUpon, hd]
    exact ⟨trivial, hn⟩
   | quiet =>
    simp only at hn ⊢
    unfold wpQuiet
    rw [if_pos hwt]
    refine ⟨v, fun w' hb => ?_, by rw [hd]; exact hn⟩
    unfold Oper.quietAt
    rw [hr w' hb]
    exact ⟨rfl, rfl⟩
  ·have hwt : Region.wanted o (yielded ops a.tmps) = false := by simp [Region.wanted, hg, hy, hw]
   have hgv : gv b want v = undef := by simp [gv, hw]
   rw [hgv] at hn
   cases m with
   | plain => simp only at hn ⊢; unfold wpList; rw [hwt, hd]; exact hn
   | still => simp only at hn ⊢; unfold wpStill; rw [hwt, hd]; exact hn
   | quiet => simp only at hn ⊢; unfold wpQuiet; rw [hwt, hd]; exact hn⟩
structure EvC (P : Program) (e : Env) (op : Op) (f : FuncId) (args : List Value) : Prop where
 run : ∀ w (o : Oper), o.op = op → (execOp (ev e) o).run P w = .ok (.enter f args.toArray) w
theorem OPS.call {d : Option Nat} {f : FuncId} {args : List Value} {R : Ending → World → Prop} (hg : o.guard = none) (hd : o.dst = d) (hN : (d.all fun d => Nat.blt d N) = true) (hE : EvC P e o.op f args) (hC : Calls P f args.toArray w R)
  (h : ∀ e' w', R e' w' → ∃ v, e' = .returned v ∧ OPS P N .plain ops K rest (updo e d v) w') : OPS P N .plain ops K (o :: rest) e w :=
 ⟨fun a h1 h2 h3 => by
  simp only
  unfold wpList
  rw [if_pos (ja1 hg _)]
  refine .inl ?_
  unfold Oper.wp
  have hr := hE.run w o rfl
  rw [← h1, ← jbW] at hr
  rw [hr]
  refine hC.mono fun e' w' hR => ?_
  obtain ⟨v, rfl, hn⟩ := h e' w' hR
  have := hn.run (a.put d v) (by rw [jek d v h2 hN, h1]) (by rw [size_put]; exact h2) (by rw [jaU]; exact h3)
  rw [hd]
  exact this⟩
theorem OPS.callq {d : Nat} {f : FuncId} {args : List Value} {v : Value} (hg : o.guard = none) (hd : o.dst = some d) (hN : Nat.blt d N = true) (hE : EvC P e o.op f args)
  (hC : ∀ w', Below w.heap.size w w' → Calls P f args.toArray w' fun e' w'' => e' = .returned v ∧ Below w'.heap.size w' w'')
  (h : OPS P N .quiet ops K rest (upd e d v) w) : OPS P N .quiet ops K (o :: rest) e w :=
 ⟨fun a h1 h2 h3 => by
  have hn := h.run (a.put (some d) v) (by rw [jbt v h2 hN, h1]) (by rw [size_put]; exact h2) (by rw [jaU]; exact h3)
  simp only at hn ⊢
  unfold wpQuiet
  rw [if_pos (ja1 hg _)]
  refine ⟨v, fun w' hb => ?_, by rw [hd]; exact hn⟩
  unfold Oper.quietAt
  have hr := hE.run w' o rfl
  rw [← h1, ← jbW] at hr
  rw [hr]
  exact ⟨rfl, (hC w' hb).mono fun e' w'' ⟨he, hb2⟩ => ⟨he, hb.trans (hb2.mono hb.size)⟩⟩⟩
theorem OPS.gno {d : Option Nat} {j dj : Nat} {want b : Bool} (hg : o.guard = some (j, want)) (hj : ops[j]?.bind (·.dst) = some dj) (hb : e dj = .bool b) (hw : (b == want) = false) (hd : o.dst = d) (hN : (d.all fun d => Nat.blt d N) = true)
  (h : OPS P N .plain ops K rest (updo e d undef) w) : OPS P N .plain ops K (o :: rest) e w :=
 ⟨fun a h1 h2 h3 => by
  have hy := jcc (a := a) hj (h1 ▸ hb)
  have hwt : Region.wanted o (yielded ops a.tmps) = false := by simpa [Region.wanted, hg, hy] using hw
  simp only
  unfold wpList
  rw [hwt]
  have := h.run (a.put d undef) (by rw [jek d _ h2 hN, h1]) (by rw [size_put]; exact h2) (by rw [jaU]; exact h3)
  rw [hd]
  exact this⟩
theorem OPS.gyes {j dj : Nat} {want b : Bool} (hg : o.guard = some (j, want)) (hj : ops[j]?.bind (·.dst) = some dj) (hb : e dj = .bool b) (hw : (b == want) = true)
  (h : OPS P N .plain ops K ({ o with guard := none } :: rest) e w) : OPS P N .plain ops K (o :: rest) e w :=
 ⟨fun a h1 h2 h3 => by
  have hy := jcc (a := a) hj (h1 ▸ hb)
  have hwt : Region.wanted o (yielded ops a.tmps) = true := by simpa [Region.wanted, hg, hy] using hw
  have := h.run a h1 h2 h3
  simp only at this ⊢
  unfold wpList at this ⊢
  rw [if_pos (ja1 rfl _)] at this
  rw [if_pos hwt]
  exact this⟩
theorem OPS.act {d : Nat} {v : Value} {w' : World} (hg : o.guard = none) (hd : o.dst = some d) (hN : Nat.blt d N = true) (hr : (execOp (ev e) o).run P w = .ok (.value v) w')
  (h : OPS P N .plain ops K rest (upd e d v) w') : OPS P N .plain ops K (o :: rest) e w :=
 ⟨fun a h1 h2 h3 => by
  have hn := h.run (a.put (some d) v) (by rw [jbt v h2 hN, h1]) (by rw [size_put]; exact h2) (by rw [jaU]; exact h3)
  rw [← h1, ← jbW] at hr
  simp only at hn ⊢
  unfold wpList
  rw [if_pos (ja1 hg _)]
  refine .inl ?_
  unfold Oper.wp
  rw [hr]
  simp only [Oper.upon, hd]
  exact hn⟩
theorem OPS.actn {w' : World} (hg : o.guard = none) (hd : o.dst = none) (hr : (execOp (ev e) o).run P w = .ok .skip w')
  (h : OPS P N .plain ops K rest e w') : OPS P N .plain ops K (o :: rest) e w :=
 ⟨fun a h1 h2 h3 => by
  have hn := h.run a h1 h2 h3
  rw [← h1, ← jbW] at hr
  simp only at hn ⊢
  unfold wpList
  rw [if_pos (ja1 hg _)]
  refine .inl ?_
  unfold Oper.wp
  rw [hr]
  simp only [Oper.upon, hd, Act.put]
  exact hn⟩
end
end Go.W
namespace Go.W
open Go.RowKit
def jak (w : World) (b : Nat) : Nat → List Value → Prop
 | _, [] => True
 | o, v :: vs => w.cell? ⟨b, o, none⟩ = some v ∧ jak w b (o + 1) vs
theorem jbJ {w w' : World} (hb : Below w.heap.size w w') {b : Nat} : ∀ {vs : List Value} {o : Nat}, jak w b o vs → jak w' b o vs
 | [], _, _ => trivial
 | _ :: _, _, h => ⟨cell_below hb h.1, jbJ hb h.2⟩
theorem addr_add (b o n : Nat) : (⟨b, o, none⟩ : Addr).add n = ⟨b, o + n, none⟩ := by
 unfold Addr.add; split
 ·rename_i h; subst h; rfl
 ·rfl
theorem jcQ {P : Program} {w : World} {b o : Nat} : ∀ (vs : List Value) (i : Nat) (acc : Array Value), jak w b (o + i) vs → (loadCellsFrom ⟨b, o, none⟩ i vs.length acc).run P w = .ok (acc ++ vs.toArray) w
 | [], i, acc, _ => by simp [loadCellsFrom, Sem.run_pure]
 | v :: vs, i, acc, h => by
  simp only [List.length_cons, loadCellsFrom, addr_add, Sem.run_bind, run_load, h.1, Result.andThen_ok]
  rw [jcQ vs (i + 1) (acc.push v) h.2]
  simp
theorem jdg {P : Program} {w : World} {b o : Nat} (vs : List Value) (h : jak w b o vs) : (loadCells ⟨b, o, none⟩ vs.length).run P w = .ok vs.toArray w := by
 unfold loadCells
 rw [jcQ vs 0 #[] h]
 simp
theorem l1 {a a' : Value} (h : a = a') : [a] = [a'] := by rw [h]
theorem l2 {a a' b b' : Value} (h : a = a') (h2 : b = b') : [a, b] = [a', b'] := by rw [h, h2]
theorem l3 {a a' b b' c c' : Value} (h : a = a') (h2 : b = b') (h3 : c = c') : [a, b, c] = [a', b', c'] := by rw [h, h2, h3]
section
variable {P : Program} {e : Env} {w : World} {ty t : TypeId} {x y c i : Operand}
theorem Ev.move : Ev P e w ty (.move x) (ev e x) := ⟨fun w' _ o ho _ => by unfold execOp; rw [ho]; rfl⟩
theorem Ev.assign : Ev P e w ty (.assign x) (ev e x) := ⟨fun w' _ o ho _ => by unfold execOp; rw [ho]; rfl⟩
theorem gvE {b want : Bool} {v x : Value} (h : b = want) (hx : x = gv b want v) : x = v := by rw [hx, gv, h]; simp
theorem Ev.mvI {k : IntKind} {n : Int} (hx : ev e x = .int k n) : Ev P e w ty (.move x) (.int k n) := hx ▸ Ev.move
theorem Ev.mvB {b : Bool} (hx : ev e x = .bool b) : Ev P e w ty (.move x) (.bool b) := hx ▸ Ev.move
theorem Ev.mvS {A : Option Addr} {n c : Nat} (hx : ev e x = .slice A n c) : Ev P e w ty (.move x) (.slice A n c) := hx ▸ Ev.move
theorem Ev.mvP {A : Option Addr} (hx : ev e x = .pointer A) : Ev P e w ty (.move x) (.pointer A) := hx ▸ Ev.move
theorem Ev.mvA {vs : Array Value} (hx : ev e x = .agg vs) : Ev P e w ty (.move x) (.agg vs) := hx ▸ Ev.move
theorem Ev.mvF {fn : Fn} {a b : Array Value} (hx : ev e x = .func fn a b) : Ev P e w ty (.move x) (.func fn a b) := hx ▸ Ev.move
theorem Ev.mvT {vs : Array Value} (hx : ev e x = .tuple vs) : Ev P e w ty (.move x) (.tuple vs) := hx ▸ Ev.move
theorem Ev.asI {k : IntKind} {n : Int} (hx : ev e x = .int k n) : Ev P e w ty (.assign x) (.int k n) := hx ▸ Ev.assign
theorem Ev.asB {b : Bool} (hx : ev e x = .bool b) : Ev P e w ty (.assign x) (.bool b) := hx ▸ Ev.assign
theorem Ev.asS {A : Option Addr} {n c : Nat} (hx : ev e x = .slice A n c) : Ev P e w ty (.assign x) (.slice A n c) := hx ▸ Ev.assign
theorem Ev.asP {A : Option Addr} (hx : ev e x = .pointer A) : Ev P e w ty (.assign x) (.pointer A) := hx ▸ Ev.assign
theorem Ev.asA {vs : Array Value} (hx : ev e x = .agg vs) : Ev P e w ty (.assign x) (.agg vs) := hx ▸ Ev.assign
theorem Ev.asF {fn : Fn} {a b : Array Value} (hx : ev e x = .func fn a b) : Ev P e w ty (.assign x) (.func fn a b) := hx ▸ Ev.assign
theorem Ev.pick {b : Bool} (hc : ev e c = .bool b) : Ev P e w ty (.pick c x y) (if b = true then ev e x else ev e y) := ⟨fun w' _ o ho _ => by unfold execOp; rw [ho]; simp only [hc, asBool]; rfl⟩
theorem Ev.pickOr {b u : Bool} (hc : ev e c = .bool b) (hx : ev e x = .bool true) (hy : ev e y = gv b false (.bool u)) : Ev P e w ty (.pick c x y) (.bool (b || u)) := by
 have := Ev.pick (P := P) (w := w) (ty := ty) (x := x) (y := y) hc
 cases b <;> simpa [hx, hy, gv] using this
theorem Ev.pickAnd {b u : Bool} (hc : ev e c = .bool b) (hx : ev e x = gv b true (.bool u)) (hy : ev e y = .bool false) : Ev P e w ty (.pick c x y) (.bool (b && u)) := by
 have := Ev.pick (P := P) (w := w) (ty := ty) (x := x) (y := y) hc
 cases b <;> simpa [hx, hy, gv] using this
theorem Ev.load1 {a : Addr} {v : Value} (hA : ∀ w, (isAgg t).run P w = .ok false w) (ha : ev e x = .pointer (some a)) (hc : w.cell? a = some v) : Ev P e w ty (.load t x) v :=
 ⟨fun w' hb o ho _ => by
  unfold execOp; rw [ho]
  simp only [ha, Instr.loadAt, Instr.sureAddr, Sem.run_bind, Sem.run_pure, Result.andThen_ok, loadVar, hA, Bool.false_eq_true, if_false, run_load, cell_below hb hc]⟩
theorem Ev.loadN {b o : Nat} (vs : List Value) (hA : ∀ w, (isAgg t).run P w = .ok true w) (hn : ∀ w, (Go.sizeOf t).run P w = .ok vs.length w) (ha : ev e x = .pointer (some ⟨b, o, none⟩)) (hc : jak w b o vs) :
  Ev P e w ty (.load t x) (.agg vs.toArray) :=
 ⟨fun w' hb o ho _ => by
  unfold execOp; rw [ho]
  simp only [ha, Instr.loadAt, Instr.sureAddr, Sem.run_bind, Sem.run_pure, Result.andThen_ok, loadVar, hA, if_true, hn, jdg vs (jbJ hb hc)]⟩
theorem jas {w0 : World} {S : List Nat} {L : List Blk} (H : SH w0 S w L) (i : Nat) {g : Nat} {T : TypeId} {cs : List Value} (hi : L[i]? = some ⟨g, T, cs⟩) : ∀ (vs : List Value) (k : Nat), (∀ j (hj : j < vs.length), cs[k + j]? = some (vs[j]'hj)) → jak w g k vs
 | [], _, _ => trivial
 | v :: vs, k, h => ⟨H.ldL i hi k (h 0 (Nat.zero_lt_succ _)), jas H i hi vs (k + 1) fun j hj => by
   have := h (j + 1) (Nat.succ_lt_succ hj)
   rw [show k + 1 + j = k + (j + 1) by omega]
   exact this⟩
theorem Ev.loadO {w0 : World} {S : List Nat} {L : List Blk} (i : Nat) {g n : Nat} {T : TypeId} {cs : List Value} (H : SH w0 S w L) (hi : L[i]? = some ⟨g, T, cs⟩) (hA : ∀ w, (isAgg t).run P w = .ok true w) (hn : ∀ w, (Go.sizeOf t).run P w = .ok n w) (hl : cs.length = n)
  (ha : ev e x = .pointer (some ⟨g, 0, none⟩)) : Ev P e w ty (.load t x) (.agg cs.toArray) :=
 Ev.loadN cs hA (fun w => by rw [hn, hl]) ha (jas H i hi cs 0 fun j hj => by rw [Nat.zero_add]; exact List.getElem?_eq_getElem hj)
theorem Ev.fieldAddr {s k off b o : Nat} (hp : ∀ b o w, (Instr.fieldAt s (.pointer (some ⟨b, o, none⟩)) k).run P w = .ok (.pointer (some ⟨b, o + off, none⟩)) w) (ha : ev e x = .pointer (some ⟨b, o, none⟩)) :
  Ev P e w ty (.fieldAddr s x k) (.pointer (some ⟨b, o + off, none⟩)) :=
 ⟨fun w' _ o ho _ => by unfold execOp; rw [ho]; simp only [ha, Sem.run_bind, Sem.run_pure, Result.andThen_ok, hp]⟩
theorem j7 {s k off : Nat} {fs : Array Field} {f : Field} {n : Nat} (hU : ∀ w, (underlying s).run P w = .ok (.struct fs) w) (hf : fs[k]? = some f) (hs : ∀ w, (Go.sizeOf f.type).run P w = .ok n w) (hn : (n == 0) = false) (ho : f.offset = off) :
  ∀ b o w, (Instr.fieldAt s (.pointer (some ⟨b, o, none⟩)) k).run P w = .ok (.pointer (some ⟨b, o + off, none⟩)) w := by
 intro b o w
 subst ho
 have hn' : n ≠ 0 := by simpa using hn
 simp only [Instr.fieldAt, Sem.run_bind, hU, Result.andThen_ok, hf, Instr.sureAddr, Sem.run_pure, fieldPlace, hs, if_neg hn', addr_add]
theorem Ev.indexAddr {el sz b o n cap j : Nat} {k : IntKind} {ii : Int} (hU : ∀ w, (underlying t).run P w = .ok (.slice el) w) (hs : ∀ w, (Go.sizeOf el).run P w = .ok sz w)
  (hx : ev e x = .slice (some ⟨b, o, none⟩) n cap) (hi : ev e i = .int k ii) (hj : ii = (j : Int)) (hlt : j < n) : Ev P e w ty (.indexAddr t x i) (.pointer (some ⟨b, o + j * sz, none⟩)) :=
 ⟨fun w' _ o ho _ => by
  unfold execOp; rw [ho]
  subst hj
  have h1 : (0 : Int) ≤ (j : Int) ∧ (j : Int) < (n : Int) := ⟨by omega, by omega⟩
  simp only [hx, hi, Instr.indexAt, asIntOf, Sem.run_bind, Sem.run_pure, Result.andThen_ok, hU, if_pos h1, hs, Int.toNat_natCast, addr_add]⟩
theorem Ev.indexAddr1 {el b o n cap j : Nat} {k : IntKind} {ii : Int} (hU : ∀ w, (underlying t).run P w = .ok (.slice el) w) (hs : ∀ w, (Go.sizeOf el).run P w = .ok 1 w)
  (hx : ev e x = .slice (some ⟨b, o, none⟩) n cap) (hi : ev e i = .int k ii) (hj : ii = (j : Int)) (hlt : j < n) : Ev P e w ty (.indexAddr t x i) (.pointer (some ⟨b, o + j, none⟩)) := by
 have := Ev.indexAddr (P := P) (w := w) (ty := ty) (x := x) (i := i) hU hs hx hi hj hlt
 simpa using this
theorem Ev.len {el n cap : Nat} {A : Option Addr} (hU : ∀ w, (underlying t).run P w = .ok (.slice el) w) (hx : ev e x = .slice A n cap) :
  Ev P e w ty (.call { callee := .builtin .len, args := #[x], argTypes := #[t] }) (.int .i64 n) :=
 ⟨fun w' _ o ho _ => by
  unfold execOp; rw [ho]
  simp [resolve, invoke, builtin, Builtin.len_, hx, hU, goInt]⟩
theorem Ev.extract {vs : Array Value} {k : Nat} {v : Value} (hx : ev e x = .tuple vs) (hv : vs[k]? = some v) : Ev P e w ty (.extract x k) v :=
 ⟨fun w' _ o ho _ => by unfold execOp; rw [ho]; simp [hx, Instr.extract, hv]⟩
theorem Ev.nilCheckP {a : Addr} (hx : ev e x = .pointer (some a)) : Ev P e w ty (.nilCheck x) (.pointer (some a)) := ⟨fun w' _ o ho _ => by unfold execOp; rw [ho]; simp [hx]⟩
theorem Ev.nilCheckF {f : FuncId} {a b : Array Value} (hx : ev e x = .func (.func f) a b) : Ev P e w ty (.nilCheck x) (.func (.func f) a b) := ⟨fun w' _ o ho _ => by unfold execOp; rw [ho]; simp [hx]⟩
theorem Ev.not {b : Bool} (hx : ev e x = .bool b) : Ev P e w ty (.unOp .not t x) (.bool (!b)) := ⟨fun w' _ o ho _ => by unfold execOp; rw [ho]; simp [hx, Op.unary]⟩
theorem Ev.makeFunc {fn : Fn} {first caps : List Operand} : Ev P e w ty (.makeFunc fn first.toArray caps.toArray) (.func fn (first.map (ev e)).toArray (caps.map (ev e)).toArray) :=
 ⟨fun w' _ o ho _ => by unfold execOp; rw [ho]; simp [Instr.makeFunc]⟩
theorem Ev.build {parts : List (Nat × Operand)} {v : Value} (hb : ∀ w', (Instr.build t (parts.map fun p => (p.1, ev e p.2)).toArray).run P w' = .ok v w') : Ev P e w ty (.build t parts.toArray) v :=
 ⟨fun w' _ o ho _ => by unfold execOp; rw [ho]; simp only [List.map_toArray, Sem.run_bind, hb, Result.andThen_ok, Sem.run_pure]⟩
theorem Ev.bin {op : BinOp} {t' : TypeId} {k : IntKind} {a b : Int} {v : Value} (hx : ev e x = .int k a) (hy : ev e y = .int k b) (hr : ∀ w, (binOp op t (.int k a) (.int k b)).run P w = .ok v w) : Ev P e w ty (.binOp op t x y t') v :=
 ⟨fun w' _ o ho _ => by unfold execOp; rw [ho]; cases op <;> simp only [hx, hy, eqGuard, Sem.run_bind, hr, Sem.run_pure] <;> simp⟩
theorem Ev.lss {t' : TypeId} {k : IntKind} {a b : Int} (hx : ev e x = .int k a) (hy : ev e y = .int k b) : Ev P e w ty (.binOp .lss t x y t') (.bool (decide (a < b))) := Ev.bin hx hy fun w => by simp [binOp, Op.intCmp]
theorem Ev.leq {t' : TypeId} {k : IntKind} {a b : Int} (hx : ev e x = .int k a) (hy : ev e y = .int k b) : Ev P e w ty (.binOp .leq t x y t') (.bool (decide (a ≤ b))) := Ev.bin hx hy fun w => by simp [binOp, Op.intCmp]
theorem Ev.gtr {t' : TypeId} {k : IntKind} {a b : Int} (hx : ev e x = .int k a) (hy : ev e y = .int k b) : Ev P e w ty (.binOp .gtr t x y t') (.bool (decide (b < a))) := Ev.bin hx hy fun w => by simp [binOp, Op.intCmp]
theorem Ev.geq {t' : TypeId} {k : IntKind} {a b : Int} (hx : ev e x = .int k a) (hy : ev e y = .int k b) : Ev P e w ty (.binOp .geq t x y t') (.bool (decide (b ≤ a))) := Ev.bin hx hy fun w => by simp [binOp, Op.intCmp]
theorem Ev.eql {t' : TypeId} {k : IntKind} {a b : Int} (hx : ev e x = .int k a) (hy : ev e y = .int k b) : Ev P e w ty (.binOp .eql t x y t') (.bool (decide (a = b))) := Ev.bin hx hy fun w => by simp [binOp, Op.intCmp]; rfl
theorem Ev.neq {t' : TypeId} {k : IntKind} {a b : Int} (hx : ev e x = .int k a) (hy : ev e y = .int k b) : Ev P e w ty (.binOp .neq t x y t') (.bool (!decide (a = b))) := Ev.bin hx hy fun w => by simp [binOp, Op.intCmp, bne]; rfl
def fits (n : Int) : Prop := -9223372036854775808 ≤ n ∧ n ≤ 9223372036854775807
theorem jcz {n : Int} (h : fits n) : IntKind.i64.wrap n = n := IntWalk.i64_in n ⟨h.1, h.2⟩
theorem Ev.add {t' : TypeId} {a b : Int} (hx : ev e x = .int .i64 a) (hy : ev e y = .int .i64 b) (h : fits (a + b)) : Ev P e w ty (.binOp .add t x y t') (.int .i64 (a + b)) := Ev.bin hx hy fun w => by simp [binOp, Op.intArith, jcz h]
theorem Ev.sub {t' : TypeId} {a b : Int} (hx : ev e x = .int .i64 a) (hy : ev e y = .int .i64 b) (h : fits (a - b)) : Ev P e w ty (.binOp .sub t x y t') (.int .i64 (a - b)) := Ev.bin hx hy fun w => by simp [binOp, Op.intArith, jcz h]
theorem Ev.mul {t' : TypeId} {a b : Int} (hx : ev e x = .int .i64 a) (hy : ev e y = .int .i64 b) (h : fits (a * b)) : Ev P e w ty (.binOp .mul t x y t') (.int .i64 (a * b)) := Ev.bin hx hy fun w => by simp [binOp, Op.intArith, jcz h]
theorem Ev.quo {t' : TypeId} {a b : Int} (hx : ev e x = .int .i64 a) (hy : ev e y = .int .i64 b) (h0 : 0 ≤ a) (h1 : a ≤ 9223372036854775807) (hb : 0 < b) : Ev P e w ty (.binOp .quo t x y t') (.int .i64 (a / b)) :=
 Ev.bin hx hy fun w => by
  have hb0 : b ≠ 0 := by omega
  have e1 : a.tdiv b = a / b := Int.tdiv_eq_ediv_of_nonneg h0
  have e2 : fits (a / b) := ⟨by have := Int.ediv_nonneg h0 (Int.le_of_lt hb); omega, by have := Int.ediv_le_self b h0; omega⟩
  simp [binOp, Op.intDiv, hb0, e1, jcz e2]
theorem Ev.neg {a : Int} (hx : ev e x = .int .i64 a) (h : fits (-a)) : Ev P e w ty (.unOp .neg t x) (.int .i64 (-a)) :=
 ⟨fun w' _ o ho _ => by
  unfold execOp; rw [ho]
  simp [hx, Op.unary, Op.intArith, jcz h]⟩
theorem Ev.min {k : IntKind} {a b : Int} {tys : Array TypeId} (hx : ev e x = .int k a) (hy : ev e y = .int k b) : Ev P e w ty (.call { callee := .builtin .min, args := #[x, y], argTypes := tys }) (.int k (if b < a then b else a)) :=
 ⟨fun w' _ o ho _ => by unfold execOp; rw [ho]; simp [resolve, invoke, builtin, Builtin.min_, Builtin.min2, hx, hy]⟩
theorem Ev.max {k : IntKind} {a b : Int} {tys : Array TypeId} (hx : ev e x = .int k a) (hy : ev e y = .int k b) : Ev P e w ty (.call { callee := .builtin .max, args := #[x, y], argTypes := tys }) (.int k (if a < b then b else a)) :=
 ⟨fun w' _ o ho _ => by unfold execOp; rw [ho]; simp [resolve, invoke, builtin, Builtin.max_, Builtin.max2, hx, hy]⟩
theorem Ev.conv {s d : TypeId} {k k' : IntKind} {a : Int} (hs : ∀ w, (underlying s).run P w = .ok (.int k') w) (hd : ∀ w, (underlying d).run P w = .ok (.int k) w) (hx : ev e x = .int k' a) : Ev P e w ty (.convert s d x) (.int k (k.wrap a)) :=
 ⟨fun w' _ o ho _ => by unfold execOp; rw [ho]; simp [hx, convert, hs, hd, Conv.intToInt]⟩
theorem Ev.sliceTo {el n cap j : Nat} {A : Option Addr} {k : IntKind} {ii : Int} (hU : ∀ w, (underlying t).run P w = .ok (.slice el) w) (hs : ∃ sz, ∀ w, (Go.sizeOf el).run P w = .ok sz w)
  (hx : ev e x = .slice A n cap) (hi : ev e i = .int k ii) (hj : ii = (j : Int)) (hle : j ≤ cap) : Ev P e w ty (.slice t x none (some i) none) (.slice A j cap) :=
 ⟨fun w' _ o ho _ => by
  unfold execOp; rw [ho]
  obtain ⟨sz, hs⟩ := hs
  subst hj
  have h1 : (0 : Int) ≤ (j : Int) ∧ (j : Int) ≤ (cap : Int) := ⟨by omega, by omega⟩
  have h2 : Option.map (fun x : Addr => x.add 0) A = A := by cases A <;> simp [Addr.add]
  simp only [Instr.sliceAt, Instr.slice, hx, Option.map_some, Option.map_none, hi, hU, Sem.run_bind, Sem.run_pure, Result.andThen_ok, Instr.sliceBounds, Instr.sliceBound, asIntOf, if_pos h1, hs, Int.toNat_natCast]
  simp [h2]⟩
theorem Ev.sliceFrom {el n cap j sz : Nat} {A : Option Addr} {k : IntKind} {ii : Int} (hU : ∀ w, (underlying t).run P w = .ok (.slice el) w) (hs : ∀ w, (Go.sizeOf el).run P w = .ok sz w)
  (hx : ev e x = .slice A n cap) (hi : ev e i = .int k ii) (hj : ii = (j : Int)) (hle : j ≤ n) : Ev P e w ty (.slice t x (some i) none none) (.slice (if cap = j then A else A.map (·.add (j * sz))) (n - j) (cap - j)) :=
 ⟨fun w' _ o ho _ => by
  unfold execOp; rw [ho]
  subst hj
  have h1 : (0 : Int) ≤ (j : Int) ∧ (j : Int) ≤ (n : Int) := ⟨by omega, by omega⟩
  simp only [Instr.sliceAt, Instr.slice, hx, Option.map_some, Option.map_none, hi, hU, Sem.run_bind, Sem.run_pure, Result.andThen_ok, Instr.sliceBounds, Instr.sliceBound, asIntOf, if_pos h1, hs, Int.toNat_natCast]⟩
theorem EvC.func {f : FuncId} {args : List Operand} {tys : Array TypeId} (hc : ∀ (args : Array Value) (w : World), (callFunc f args).run P w = .ok (.enter f args) w) :
  EvC P e (.call { callee := .value (.func f), args := args.toArray, argTypes := tys }) f (args.map (ev e)) :=
 ⟨fun w o ho => by
  unfold execOp; rw [ho]
  simp [resolve, ev, Deferred.ofValue, invoke, hc]⟩
theorem EvC.conv {op : Op} {f : FuncId} {args args' : List Value} (h : EvC P e op f args) (ha : args = args') : EvC P e op f args' := ha ▸ h
theorem EvC.clos {f : FuncId} {g : Operand} {first caps : List Value} {args : List Operand} {tys : Array TypeId} (hg : ev e g = .func (.func f) first.toArray caps.toArray) (hc : ∀ (args : Array Value) (w : World), (callFunc f args).run P w = .ok (.enter f args) w) :
  EvC P e (.call { callee := .value g, args := args.toArray, argTypes := tys }) f (first ++ args.map (ev e) ++ caps) :=
 ⟨fun w o ho => by
  unfold execOp; rw [ho]
  simp [resolve, hg, Deferred.ofValue, invoke, hc]⟩
end
theorem cI {e : Env} {y : Operand} {k : IntKind} {n : Int} (h : ev e y = .int k n) : (ev e y).cells = [Value.int k n].toArray := by rw [h]; rfl
theorem cB {e : Env} {y : Operand} {b : Bool} (h : ev e y = .bool b) : (ev e y).cells = [Value.bool b].toArray := by rw [h]; rfl
theorem cS {e : Env} {y : Operand} {A : Option Addr} {n c : Nat} (h : ev e y = .slice A n c) : (ev e y).cells = [Value.slice A n c].toArray := by rw [h]; rfl
theorem cP {e : Env} {y : Operand} {A : Option Addr} (h : ev e y = .pointer A) : (ev e y).cells = [Value.pointer A].toArray := by rw [h]; rfl
theorem cF {e : Env} {y : Operand} {fn : Fn} {a b : Array Value} (h : ev e y = .func fn a b) : (ev e y).cells = [Value.func fn a b].toArray := by rw [h]; rfl
theorem cA {e : Env} {y : Operand} {vs : List Value} (h : ev e y = .agg vs.toArray) : (ev e y).cells = vs.toArray := by rw [h]; rfl
section
variable {P : Program} {N : Nat} {ops : Array Oper} {K : Env → World → Prop} {e : Env} {w w0 : World} {S : List Nat} {L : List Blk} {rest : List Oper} {o : Oper} {t : TypeId} {x y : Operand}
theorem OPS.know {m : Md} {t : Nat} {v : Value} {l : List Oper} (h : e t = v) (hw : OPS P N m ops K l (upd e t v) w) : OPS P N m ops K l e w := by rw [upd_same h] at hw; exact hw
theorem OPS.box {d : Nat} {cs : List Value} (hg : o.guard = none) (hd : o.dst = some d) (hN : Nat.blt d N = true) (hop : o.op = .box t x) (hx : (ev e x).cells = cs.toArray) (H : SH w0 S w L)
  (h : ∀ g w', SH w0 S w' (⟨g, t, cs⟩ :: L) → OPS P N .plain ops K rest (upd e d (.pointer (some ⟨g, 0, none⟩))) w') : OPS P N .plain ops K (o :: rest) e w :=
 OPS.act (v := .pointer (some ⟨w.heap.size, 0, none⟩)) (w' := w.alloc (.cells cs.toArray t)) hg hd hN (by unfold execOp; rw [hop]; simp [Instr.box, newVar, newRow, newObj, Sem.run, hx]) (h _ _ (H.alloc t cs))
theorem OPS.alloc {d : Nat} {z : Value} {cs : List Value} (hg : o.guard = none) (hd : o.dst = some d) (hN : Nat.blt d N = true) (hop : o.op = .alloc t) (hz : ∀ w, (zeroValue t).run P w = .ok z w) (hx : z.cells = cs.toArray) (H : SH w0 S w L)
  (h : ∀ g w', SH w0 S w' (⟨g, t, cs⟩ :: L) → OPS P N .plain ops K rest (upd e d (.pointer (some ⟨g, 0, none⟩))) w') : OPS P N .plain ops K (o :: rest) e w :=
 OPS.act (v := .pointer (some ⟨w.heap.size, 0, none⟩)) (w' := w.alloc (.cells cs.toArray t)) hg hd hN (by unfold execOp; rw [hop]; simp [Instr.alloc, hz, newVar, newRow, newObj, Sem.run, hx]) (h _ _ (H.alloc t cs))
def jam : List Value → Nat → List Value → List Value
 | cs, _, [] => cs
 | cs, k, v :: vs => jam (cs.set k v) (k + 1) vs
theorem jdX {i : Nat} : ∀ (vs : List Value) (w : World) (L : List Blk) (b : Blk) (k j : Nat), SH w0 S w L → L[i]? = some b → k + j + vs.length ≤ b.cs.length → (vs.all (·.oneCell')) = true →
  ∃ w', (storeCells ⟨b.g, k, none⟩ vs j).run P w = .ok () w' ∧ SH w0 S w' (L.set i ⟨b.g, b.T, jam b.cs (k + j) vs⟩)
 | [], w, L, b, k, j, H, hi, _, _ => ⟨w, by simp [storeCells, Sem.run_pure], by
   have hlen : i < L.length := (List.getElem?_eq_some_iff.1 hi).1
   have hgi : L[i] = b := (List.getElem?_eq_some_iff.1 hi).2
   have : L.set i ⟨b.g, b.T, jam b.cs (k + j) []⟩ = L := by
    rw [show (⟨b.g, b.T, jam b.cs (k + j) []⟩ : Blk) = L[i] from by rw [hgi]; rfl, List.set_getElem_self]
   rw [this]; exact H⟩
 | v :: vs, w, L, b, k, j, H, hi, hk, h1 => by
  simp only [List.all_cons, Bool.and_eq_true] at h1
  simp only [List.length_cons] at hk
  have hlen : i < L.length := (List.getElem?_eq_some_iff.1 hi).1
  have hb : b ∈ L := List.mem_of_getElem? hi
  have H' := H.set i hi (k + j) v
  have hi' : (L.set i ⟨b.g, b.T, b.cs.set (k + j) v⟩)[i]? = some ⟨b.g, b.T, b.cs.set (k + j) v⟩ := by simp [hlen]
  obtain ⟨w', hr, H2⟩ := jdX vs _ _ ⟨b.g, b.T, b.cs.set (k + j) v⟩ k (j + 1) H' hi' (by simp; omega) h1.2
  refine ⟨w', ?_, ?_⟩
  ·have hc : w.cell? ⟨b.g, k + j, none⟩ = some (b.cs[k + j]'(by omega)) := H.ldL i hi _ (List.getElem?_eq_getElem (by omega))
   have hf := H.notFrozen hb (k + j)
   simp only [storeCells, addr_add, Sem.run_bind]
   rw [run_store P w _ v .plain h1.1]
   simp only [hc, hf]
   simpa using hr
  ·rw [List.set_set] at H2
   exact H2
theorem OPS.store {vs : List Value} {n : Nat} {b : Blk} (i k : Nat) (hg : o.guard = none) (hd : o.dst = none) (hop : o.op = .store t x y) (hs : ∀ w, (Go.sizeOf t).run P w = .ok n w) (hx : ev e x = .pointer (some ⟨b.g, k, none⟩))
  (hv : (ev e y).cells = vs.toArray) (hn : vs.length = n) (h1 : (vs.all (·.oneCell')) = true) (H : SH w0 S w L) (hi : L[i]? = some b) (hk : k + n ≤ b.cs.length)
  (h : ∀ w', SH w0 S w' (L.set i ⟨b.g, b.T, jam b.cs k vs⟩) → OPS P N .plain ops K rest e w') : OPS P N .plain ops K (o :: rest) e w := by
 obtain ⟨w', hr, H'⟩ := jdX (P := P) vs w L b k 0 H hi (by omega) h1
 refine OPS.actn (w' := w') hg hd ?_ (h w' H')
 unfold execOp; rw [hop]
 simp only [hx, Instr.storeAt, Instr.sureAddr, Sem.run_bind, Sem.run_pure, Result.andThen_ok, storeVar, hv, hs, List.size_toArray, hn, ne_eq, not_true_eq_false, if_false]
 simp [hr]
end
end Go.W
namespace Go.W
open Go.RowKit
def jnu (P : Program) (e : Env) (w : World) : ResultVar → Value → Prop
 | .tmp t, v => e t = v
 | .cell a t, v => ∃ ad, e a = .pointer (some ad) ∧ (loadVar t ad).run P w = .ok v w
def ResL (P : Program) (e : Env) (w : World) : List ResultVar → List Value → Prop
 | [], [] => True
 | r :: rs, v :: vs => jnu P e w r v ∧ ResL P e w rs vs
 | _, _ => False
def tup : List Value → Value
 | [v] => v
 | vs => .tuple vs.toArray
section
variable {P : Program} {N : Nat} {e : Env} {w w0 : World} {S : List Nat} {L : List Blk}
theorem jeG (tmps : Array Value) : ∀ (l : List ResultVar) (vs : List Value), ResL P (fun t => tmps.getD t undef) w l vs →
  (l.mapM (m := Sem) fun | .tmp t => pure (tmps.getD t undef) | .cell a t => do loadVar t (← asAddr (tmps.getD a undef))).run P w = .ok vs w
 | [], [], _ => by simp
 | r :: rs, v :: vs, h => by
  obtain ⟨h1, h2⟩ := h
  have ih := jeG tmps rs vs h2
  rw [List.mapM_cons]
  cases r with
  | tmp t =>
   have h1 : tmps.getD t undef = v := h1
   simp only [Sem.run_bind, Sem.run_pure, Result.andThen_ok, ih, h1]
  | cell a t =>
   obtain ⟨ad, h3, h4⟩ := h1
   have h3 : tmps.getD a undef = .pointer (some ad) := h3
   have hA : (asAddr (tmps.getD a undef)).run P w = .ok ad w := by rw [h3]; rfl
   simp only [Sem.run_bind, hA, Sem.run_pure, Result.andThen_ok, h4, ih]
 | [], _ :: _, h => h.elim
 | _ :: _, [], h => h.elim
theorem jfj {fn : Func} {l : List ResultVar} (hl : fn.results = l.toArray) {tmps : Array Value} {vs : List Value} (h : ResL P (fun t => tmps.getD t undef) w l vs) :
  (results fn tmps).run P w = .ok (tup vs) w := by
 unfold results
 rw [hl, List.mapM_toArray]
 have := jeG tmps l vs h
 simp only [map_eq_pure_bind, bind_assoc, pure_bind, Sem.run_bind] at this ⊢
 refine (congrArg (fun r => Result.andThen r _) this).trans ?_
 simp only [Result.andThen_ok]
 match vs with
 | [] => simp [tup]
 | [v] => simp [tup]
 | v :: u :: vs => simp [tup]
theorem Calls.ofWPc {f : FuncId} {fn : Func} {c : Code} {args : List Value} {l : List ResultVar} {R : Ending → World → Prop}
  (hf : P.funcs[f]? = some fn) (hb : fn.body = some c) (hl : fn.results = l.toArray) (hN : fn.ntmps = N) (hle : Nat.ble args.length N = true)
  (h : WP P N c (fun e w => ∃ vs, ResL P e w l vs ∧ R (.returned (tup vs)) w) NoX (fun e w => ∃ vs, ResL P e w l vs ∧ R (.returned (tup vs)) w) (jmc args) w) :
  Calls P f args.toArray w R := by
 have hle' : args.length ≤ N := by simpa using hle
 refine calls_of_wp hf hb (Code.wp_mono (fun ex a w hp => ?_) (h.run _ ?_ ?_ rfl))
 ·cases ex <;> simp only [post, NoX] at hp <;> simp only [bodyPost]
  ·obtain ⟨_, h2, v, h3, h4⟩ := hp
   exact ⟨h2, _, jfj hl h3, h4⟩
  ·exact hp.2.2
  ·obtain ⟨_, h2, v, h3, h4⟩ := hp
   exact ⟨h2, _, jfj hl h3, h4⟩
 ·funext j
  simp only [jch, jmc]
  by_cases hj : j < args.length
  ·simp [hj, Array.getElem?_append]
  ·simp [hj, Array.getElem?_append, Array.getElem?_replicate]
   split <;> rfl
 ·simp [hN]; omega
theorem x6 {t a n : Nat} (i : Nat) {g : Nat} {T : TypeId} {cs : List Value} (H : SH w0 S w L) (hi : L[i]? = some ⟨g, T, cs⟩) (hA : ∀ w, (isAgg t).run P w = .ok true w) (hn : ∀ w, (Go.sizeOf t).run P w = .ok n w) (hl : cs.length = n)
  (ha : e a = .pointer (some ⟨g, 0, none⟩)) : jnu P e w (.cell a t) (.agg cs.toArray) :=
 ⟨_, ha, by
  have hc := jas H i hi cs 0 fun j hj => by rw [Nat.zero_add]; exact List.getElem?_eq_getElem hj
  simp only [loadVar, Sem.run_bind, hA, Result.andThen_ok, if_true, hn, ← hl, jdg cs hc, Sem.run_pure]⟩
end
section
variable {P : Program} {N : Nat} {ops : Array Oper} {K : Env → World → Prop} {e : Env} {w w0 : World} {S : List Nat} {L : List Blk} {rest : List Oper} {o : Oper} {t : TypeId} {x y : Operand}
theorem OPS.gcall {d j dj : Nat} {want b : Bool} {f : FuncId} {args : List Value} {v : Value} (hg : o.guard = some (j, want)) (hj : ops[j]?.bind (·.dst) = some dj) (hb : e dj = .bool b) (hd : o.dst = some d) (hN : Nat.blt d N = true)
  (hE : b = want → EvC P e o.op f args) (hC : b = want → Calls P f args.toArray w fun e' w' => e' = .returned v ∧ Below w.heap.size w w')
  (h : ∀ w', Below w.heap.size w w' → OPS P N .plain ops K rest (upd e d (gv b want v)) w') : OPS P N .plain ops K (o :: rest) e w :=
 ⟨fun a h1 h2 h3 => by
  have hn := fun w' hb => (h w' hb).run (a.put (some d) (gv b want v)) (by rw [jbt _ h2 hN, h1]) (by rw [size_put]; exact h2) (by rw [jaU]; exact h3)
  have hy := jcc (a := a) hj (h1 ▸ hb)
  simp only at hn ⊢
  unfold wpList
  by_cases hw : b = want
  ·subst hw
   have hwt : Region.wanted o (yielded ops a.tmps) = true := by simp [Region.wanted, hg, hy]
   have hgv : gv b b v = v := by simp [gv]
   rw [hgv] at hn
   rw [if_pos hwt]
   refine .inl ?_
   unfold Oper.wp
   have hr := (hE rfl).run w o rfl
   rw [← h1, ← jbW] at hr
   rw [hr]
   refine (hC rfl).mono fun e' w' ⟨he, hb2⟩ => ?_
   subst he
   rw [hd]
   exact hn w' hb2
  ·have hwt : Region.wanted o (yielded ops a.tmps) = false := by simp [Region.wanted, hg, hy, hw]
   have hgv : gv b want v = undef := by simp [gv, hw]
   rw [hgv] at hn
   rw [hwt, hd]; exact hn w (Below.refl _ _)⟩
theorem OPS.gcall0 {d j dj : Nat} {want b : Bool} {f : FuncId} {args : List Value} {v : Value} {R : Ending → World → Prop} (hC : Calls P f args.toArray w R) (hR : ∀ e' w', R e' w' → e' = .returned v ∧ Below w.heap.size w w')
  (hg : o.guard = some (j, want)) (hj : ops[j]?.bind (·.dst) = some dj) (hb : e dj = .bool b) (hd : o.dst = some d) (hN : Nat.blt d N = true)
  (hE : b = want → EvC P e o.op f args) 
  (h : ∀ w', Below w.heap.size w w' → OPS P N .plain ops K rest (upd e d (gv b want v)) w') : OPS P N .plain ops K (o :: rest) e w :=
 OPS.gcall hg hj hb hd hN hE (fun _ => hC.mono hR) h
structure jaG (P : Program) (t el sz bt : Nat) (zs : List Value) : Prop where
 und : P.underlying t = some (.slice el)
 info : ∃ i z, P.info? el = some i ∧ i.zero = some z ∧ i.size = sz ∧ i.bytes = bt ∧ z.cells = zs.toArray
 len : zs.length = sz
 pos : 0 < sz
theorem jaG.undRun {el sz bt : Nat} {zs : List Value} (h : jaG P t el sz bt zs) (w : World) : (underlying t).run P w = .ok (.slice el) w := run_underlying h.und w
theorem jaG.mk' {el sz bt : Nat} {z : Value} {zs : List Value} (hu : P.underlying t = some (.slice el)) (hi : (P.info? el).map (fun i => (i.zero, i.size, i.bytes)) = some (some z, sz, bt)) (hz : z.cells = zs.toArray) (hl : zs.length = sz) (hp : 0 < sz) : jaG P t el sz bt zs := by
 obtain ⟨i, h1, h2, h3, h4⟩ := info_parts hi
 exact ⟨hu, ⟨i, z, h1, h2, h3, h4, hz⟩, hl, hp⟩
def mkL (n : Nat) (zs : List Value) : List Value := (List.replicate n zs).flatten
theorem jdm (n : Nat) (zs : List Value) : (mkL n zs).length = n * zs.length := by simp [mkL]
theorem mkL_one (n : Nat) (z : Value) : mkL n [z] = List.replicate n z := by
 induction n with
 | zero => rfl
 | succ n ih => simp [mkL, List.replicate_succ] at ih ⊢
theorem jj6 (zs : List Value) : ∀ (n i : Nat), i < n * zs.length → (mkL n zs)[i]? = zs[i % zs.length]?
 | 0, i, h => by simp at h
 | n + 1, i, h => by
  have e : mkL (n + 1) zs = zs ++ mkL n zs := by simp [mkL, List.replicate_succ]
  rw [e]
  by_cases hi : i < zs.length
  ·rw [List.getElem?_append_left hi, Nat.mod_eq_of_lt hi]
  ·have hi' : zs.length ≤ i := by omega
   rw [List.getElem?_append_right hi', jj6 zs n (i - zs.length) (by rw [Nat.succ_mul] at h; omega), Nat.mod_eq_sub_mod hi']
theorem jjK {zs : List Value} (n : Nat) (h : 0 < zs.length) : ((Array.range (n * zs.length)).map fun i => zs.toArray[i % zs.toArray.size]!) = (mkL n zs).toArray := by
 apply Array.ext_getElem?
 intro i
 simp only [List.getElem?_toArray, List.size_toArray]
 by_cases hi : i < n * zs.length
 ·rw [jj6 zs n i hi]
  have hm := Nat.mod_lt i h
  simp [hi, hm]
 ·rw [Array.getElem?_eq_none (by simp; omega), List.getElem?_eq_none (by rw [jdm]; omega)]
theorem jee {el sz bt : Nat} {zs : List Value} (hf : jaG P t el sz bt zs) (m : Nat) (k k' : IntKind) (hb : bt * m ≤ 140737488355328) (hm : m ≤ 9223372036854775807) (w : World) :
  (Instr.makeSlice t (.int k (m : Int)) (.int k' (m : Int))).run P w = .ok (.slice (some ⟨w.heap.size, 0, none⟩) m m) (w.alloc (.cells (mkL m zs).toArray el)) := by
 obtain ⟨i, z, h1, h2, h3, h4, h5⟩ := hf.info
 have hw : IntKind.i64.wrap (m : Int) = m := IntWalk.i64_in _ ⟨by omega, by omega⟩
 have ht : (typeInfo el).run P w = .ok i w := by unfold typeInfo program; simp only [Sem.run_bind, Sem.run, Result.andThen_ok, h1, Sem.run_pure]
 have hs : (Go.sizeOf el).run P w = .ok sz w := by unfold Go.sizeOf; simp only [Sem.run_bind, ht, Result.andThen_ok, h3, Sem.run_pure]
 have hz : (zeroValue el).run P w = .ok z w := by unfold zeroValue; simp only [Sem.run_bind, ht, Result.andThen_ok, h2, Sem.run_pure]
 have c1 : ((bt : Int) * (m : Int) > 2 ^ 48) = False := by
  have : ((bt * m : Nat) : Int) ≤ 140737488355328 := Int.ofNat_le.2 hb
  rw [Int.natCast_mul] at this
  refine eq_false fun h => ?_
  have h : (2:Int) ^ 48 < (bt : Int) * (m : Int) := h
  have : (2:Int) ^ 48 = 281474976710656 := by decide
  omega
 have c2 : ((m : Int) < 0) = False := by simp
 have e1 : (Array.map (fun i => (z.cells)[i % z.cells.size]!) (Array.range (m * sz))) = (mkL m zs).toArray := by
  rw [h5, ← hf.len]; exact jjK m (by rw [hf.len]; exact hf.pos)
 simp only [Instr.makeSlice, Sem.run_bind, run_underlying hf.und, Result.andThen_ok, asInt, asIntOf, Sem.run_pure, ht, h4, hw, c1, c2]
 simp only [decide_false, Bool.or_false, Int.lt_irrefl, gt_iff_lt, Bool.false_eq_true, if_false, askRoom]
 split <;> simp only [mark, Sem.run_pure, Sem.run, Result.andThen_ok, hs, Int.toNat_natCast, Sem.run_bind]
 all_goals
  by_cases hn : m * sz = 0
  ·have hm0 : m = 0 := by
    rcases Nat.mul_eq_zero.1 hn with h | h
    ·exact h
    ·have := hf.pos; omega
   subst hm0
   simp [newRow, newObj, Sem.run, mkL]
   congr 2
   apply Array.ext_getElem?; intro i; simp
  ·simp [hn, hz, newRow, newObj, Sem.run, e1]
theorem OPS.makeSlice {d el sz bt m : Nat} {n : Int} {k k' : IntKind} {zs : List Value} (hg : o.guard = none) (hd : o.dst = some d) (hN : Nat.blt d N = true) (hop : o.op = .makeSlice t x y) (hf : jaG P t el sz bt zs)
  (hx : ev e x = .int k n) (hy : ev e y = .int k' n) (hn : n = (m : Int)) (hb : bt * m ≤ 140737488355328) (hm : m ≤ 9223372036854775807) (H : SH w0 S w L)
  (h : ∀ g w', SH w0 S w' (⟨g, el, mkL m zs⟩ :: L) → OPS P N .plain ops K rest (upd e d (.slice (some ⟨g, 0, none⟩) m m)) w') : OPS P N .plain ops K (o :: rest) e w := by
 subst hn
 refine OPS.act (v := .slice (some ⟨w.heap.size, 0, none⟩) m m) (w' := w.alloc (.cells (mkL m zs).toArray el)) hg hd hN ?_ (h _ _ (H.alloc _ _))
 unfold execOp; rw [hop]
 simp only [hx, hy, Sem.run_bind, jee hf m k k' hb hm w, Result.andThen_ok, Sem.run_pure]
theorem OPS.buildSlice {d el n : Nat} {cs : List Value} {parts : List (Nat × Operand)} (hg : o.guard = none) (hd : o.dst = some d) (hN : Nat.blt d N = true) (hop : o.op = .buildSlice t n parts.toArray)
  (hr : ∀ w, (Instr.buildSlice t n (parts.map fun p => (p.1, ev e p.2)).toArray).run P w = .ok (.slice (some ⟨w.heap.size, 0, none⟩) n n) (w.alloc (.cells cs.toArray el))) (H : SH w0 S w L)
  (h : ∀ g w', SH w0 S w' (⟨g, el, cs⟩ :: L) → OPS P N .plain ops K rest (upd e d (.slice (some ⟨g, 0, none⟩) n n)) w') : OPS P N .plain ops K (o :: rest) e w := by
 refine OPS.act (v := .slice (some ⟨w.heap.size, 0, none⟩) n n) (w' := w.alloc (.cells cs.toArray el)) hg hd hN ?_ (h _ _ (H.alloc _ _))
 unfold execOp; rw [hop]
 simp only [List.map_toArray, Sem.run_bind, hr, Result.andThen_ok, Sem.run_pure]
theorem y0 (H : SH w0 S w L) (i : Nat) {g : Nat} {T : TypeId} {cs : List Value} (hi : L[i]? = some ⟨g, T, cs⟩) : ∃ b o, some (⟨g, 0, none⟩ : Addr) = some ⟨b, o, none⟩ ∧ jak w b o cs :=
 ⟨g, 0, rfl, jas H i hi cs 0 fun j hj => by rw [Nat.zero_add]; exact List.getElem?_eq_getElem hj⟩
structure OwnS (A : Option Addr) (cap n : Nat) (xs : List Value) (el sz : Nat) (Lo : List Blk) : Prop where
 len : xs.length = n * sz
 form : (A = none ∧ n = 0 ∧ cap = 0 ∧ Lo = []) ∨ ∃ g sp, A = some ⟨g, 0, none⟩ ∧ Lo = [⟨g, el, xs ++ sp⟩] ∧ n ≤ cap ∧ cap ≤ maxLen ∧ (xs ++ sp).length = cap * sz
theorem OwnS.nil {el sz : Nat} : OwnS none 0 0 [] el sz [] := ⟨by simp, .inl ⟨rfl, rfl, rfl, rfl⟩⟩
theorem OwnS.toOwns {A : Option Addr} {cap n el sz : Nat} {xs : List Value} {Lo R : List Blk} (h : OwnS A cap n xs el sz Lo) (H : SH w0 S w (R ++ Lo)) : w.ownsRow 0 el sz (.slice A n cap) n xs := by
 refine ⟨h.len, ?_⟩
 rcases h.form with ⟨rfl, rfl, rfl, _⟩ | ⟨g, sp, rfl, rfl, h1, h2, h3⟩
 ·exact .inl ⟨rfl, rfl⟩
 ·have := H.own ⟨g, el, xs ++ sp⟩ (by simp)
  exact .inr ⟨g, cap, _, rfl, Nat.zero_le _, this, h1, h2, by simpa using h3, by simp [← h.len]⟩
theorem SH.perm {L' : List Blk} (H : SH w0 S w L) (hp : L.Perm L') : SH w0 S w L' :=
 ⟨H.os, H.tape, H.output, H.size, H.low, fun b hb => H.own b (hp.mem_iff.2 hb), fun b hb => H.may b (hp.mem_iff.2 hb), (hp.map _).nodup_iff.1 H.nodup⟩
theorem OPS.append {d el sz bt n m cap cx : Nat} {ty2 : Array TypeId} {A Ax : Option Addr} {zs xs news : List Value} {Lo R : List Blk} (hg : o.guard = none) (hd : o.dst = some d) (hN : Nat.blt d N = true)
  (hop : o.op = .call { callee := .builtin .append, args := #[x, y], argTypes := ty2 }) (hty : ty2 = #[t, t]) (hf : jaG P t el sz bt zs)
  (hx : ev e x = .slice A n cap) (hy : ev e y = .slice Ax m cx) (hO : OwnS A cap n xs el sz Lo) (hl : news.length = m * sz) (hs : ∃ b o, Ax = some ⟨b, o, none⟩ ∧ jak w b o news) (h1 : (news.all (·.oneCell')) = true)
  (hbd : (n + m) * bt ≤ 140737488355328) (hbd2 : n + m ≤ maxLen) (H : SH w0 S w L) (hp : L.Perm (R ++ Lo))
  (h : ∀ A' cap' Lo' w', OwnS A' cap' (n + m) (xs ++ news) el sz Lo' → SH w0 S w' (R ++ Lo') → OPS P N .plain ops K rest (upd e d (.slice A' (n + m) cap')) w') : OPS P N .plain ops K (o :: rest) e w := by
 have H' := H.perm hp
 have hown := hO.toOwns H'
 obtain ⟨i, z, i1, i2, i3, i4, i5⟩ := hf.info
 obtain ⟨b, of, rfl, hc⟩ := hs
 have hcl : ∀ j u, news[j]? = some u → w.cell? ((⟨b, of, none⟩ : Addr).add j) = some u := by
  intro j u hj
  rw [addr_add]
  have : ∀ (l : List Value) (o j : Nat), jak w b o l → ∀ u, l[j]? = some u → w.cell? ⟨b, o + j, none⟩ = some u := by
   intro l
   induction l with
   | nil => intro o j _ u hu; simp at hu
   | cons v l ih =>
    intro o j hc u hu
    cases j with
    | zero => simp at hu; subst hu; exact hc.1
    | succ j => have := ih (o + 1) j hc.2 u (by simpa using hu); rw [show o + (j + 1) = o + 1 + j by omega]; exact this
  exact this news of j hc u hj
 obtain ⟨v', w', hrun, hown', hgr, _, hat⟩ := run_append_own_at (P := P) w 0 t o.type el i z sz bt hf.und i1 i2 i3 i4 (by rw [i5]; simpa using hf.len) hf.pos (.slice A n cap) n xs hown ⟨b, of, none⟩ m cx news hl hcl
  (fun u hu => by simpa using List.all_eq_true.1 h1 u hu) hbd2 hbd (Nat.zero_le _)
 have key : ∃ A' cap' Lo', v' = .slice A' (n + m) cap' ∧ OwnS A' cap' (n + m) (xs ++ news) el sz Lo' ∧ SH w0 S w' (R ++ Lo') := by
  have hR : ∀ c ∈ R, some c.g ≠ (Value.slice A n cap).ownBlock := by
   intro c hcR
   rcases hO.form with ⟨rfl, _, _, _⟩ | ⟨g, sp, rfl, rfl, _⟩
   ·simp [Value.ownBlock]
   ·simp only [Value.ownBlock, ne_eq, Option.some.injEq]
    intro he
    have hn := H'.nodup
    rw [List.map_append, List.nodup_append] at hn
    exact hn.2.2 c.g (List.mem_map_of_mem hcR) g (by simp) he
  have hlow : ∀ k, k < w0.heap.size → k ∉ S → w'.heap[k]? = w0.heap[k]? := by
   intro k hk hS
   rw [hgr.block k (Nat.lt_of_lt_of_le hk H'.size) ?_]
   ·exact H'.low k hk hS
   ·rcases hO.form with ⟨rfl, _, _, _⟩ | ⟨g, sp, rfl, rfl, _⟩
    ·simp [Value.ownBlock]
    ·simp only [Value.ownBlock, ne_eq, Option.some.injEq]
     intro he
     rcases H'.may ⟨g, el, xs ++ sp⟩ (by simp) with hh | hh
     ·have hh : w0.heap.size ≤ g := hh
      omega
     ·exact hS (he ▸ hh)
  have hRown : ∀ c ∈ R, w'.heap[c.g]? = some (.cells c.cs.toArray c.T (0, 0)) := fun c hcR =>
   (hgr.block c.g (H'.lt (List.mem_append_left _ hcR)) (hR c hcR)).trans (H'.own c (List.mem_append_left _ hcR))
  rcases hown'.2 with ⟨rfl, h0⟩ | ⟨g, cap', cur, rfl, _, hblk, hle, hmx, hsz, htk⟩
  ·refine ⟨none, 0, [], by rw [h0], ⟨hown'.1, .inl ⟨rfl, h0, rfl, rfl⟩⟩, ?_⟩
   exact ⟨hgr.os.trans H'.os, hgr.tape.trans H'.tape, hgr.output.trans H'.output, Nat.le_trans H'.size hgr.size, hlow, fun c hc => hRown c (by simpa using hc), fun c hc => H'.may c (by simp at hc; simp [hc]), by
    have := H'.nodup; rw [List.map_append, List.nodup_append] at this; simpa using this.1⟩
  ·have hgm : w0.heap.size ≤ g ∨ g ∈ S := by
    rcases hat with ha | ha
    ·simp only [Value.ownBlock] at ha
     rcases hO.form with ⟨rfl, _, _, _⟩ | ⟨g', sp, rfl, rfl, _⟩
     ·simp at ha
     ·simp at ha; subst ha; exact H'.may ⟨g, el, xs ++ sp⟩ (by simp)
    ·simp only [Value.ownBlock, Option.some.injEq] at ha
     have hh := H'.size
     exact .inl (by rw [ha]; exact hh)
   have hgR : ∀ c ∈ R, c.g ≠ g := by
    intro c hcR he
    rcases hat with ha | ha
    ·exact hR c hcR (by rw [← ha, he]; rfl)
    ·simp only [Value.ownBlock, Option.some.injEq] at ha
     have := H'.lt (List.mem_append_left _ hcR); omega
   have hcur : cur = ((xs ++ news) ++ cur.toList.drop ((n + m) * sz)).toArray := by
    rw [← htk, List.take_append_drop]
   refine ⟨some ⟨g, 0, none⟩, cap', [⟨g, el, (xs ++ news) ++ cur.toList.drop ((n + m) * sz)⟩], rfl, ⟨hown'.1, .inr ⟨g, _, rfl, rfl, hle, hmx, ?_⟩⟩, ?_⟩
   ·have := congrArg Array.size hcur
    simp only [List.size_toArray] at this
    rw [← this]; exact hsz
   ·refine ⟨hgr.os.trans H'.os, hgr.tape.trans H'.tape, hgr.output.trans H'.output, Nat.le_trans H'.size hgr.size, hlow, fun c hc => ?_, fun c hc => ?_, ?_⟩
    ·rcases List.mem_append.1 hc with hc | hc
     ·exact hRown c hc
     ·simp at hc; subst hc
      have h2 := hcur
      rw [List.append_assoc] at h2
      simp only [List.append_assoc]
      rw [← h2]; exact hblk
    ·rcases List.mem_append.1 hc with hc | hc
     ·exact H'.may c (List.mem_append_left _ hc)
     ·simp at hc; subst hc; exact hgm
    ·have hn := H'.nodup
     rw [List.map_append, List.nodup_append] at hn
     rw [List.map_append, List.nodup_append]
     refine ⟨hn.1, by simp, fun a ha b hb => ?_⟩
     simp at hb; subst hb
     obtain ⟨c, hc, rfl⟩ := List.mem_map.1 ha
     exact hgR c hc
 obtain ⟨A', cap', Lo', rfl, hO', H2⟩ := key
 refine OPS.act (v := .slice A' (n + m) cap') (w' := w') hg hd hN ?_ (h A' cap' Lo' w' hO' H2)
 unfold execOp; rw [hop, hty]
 simp only [resolve, Sem.run_bind, Sem.run_pure, Result.andThen_ok, invoke, builtin]
 simp [hx, hy, hrun]
end
end Go.W
