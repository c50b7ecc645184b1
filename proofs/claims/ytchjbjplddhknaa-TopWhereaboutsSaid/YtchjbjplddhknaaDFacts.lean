/-
  The types and functions of this seat, as the walk wants them (written by a program from the translation).
-/
import Derived.Test.YtchjbjplddhknaaProg
import Derived.Test.YtchjbjplddhknaaHeld
import Derived.OrdersHeld
import Derived.Laws.CopyRow
import Derived.Test.YtchjbjplddhknaaEng
import Derived.Maps.Keyed
import Derived.Maps.RangeRun
import Derived.RowKit
set_option linter.all false
namespace Go.Proofs.Ytchjbjplddhknaa.D
open Go Go.WD

def aggT : Nat → Option Bool
  | 2 => some false
  | 3 => some false
  | 4 => some false
  | 5 => some false
  | 6 => some false
  | 21 => some false
  | 22 => some false
  | 55 => some true
  | 56 => some true
  | 92 => some true
  | 93 => some true
  | 107 => some true
  | _ => none

set_option maxHeartbeats 2000000 in
theorem agg_run {t : Nat} {v : _} (h : aggT t = some v) : ∀ w, (isAgg t).run Try.prog w = .ok v w := by
  unfold aggT at h
  split at h <;> (try cases h)
  · exact Try.isAgg2
  · exact Try.isAgg3
  · exact Try.isAgg4
  · exact Try.isAgg5
  · exact Try.isAgg6
  · exact Try.isAgg21
  · exact Try.isAgg22
  · exact Try.isAgg55
  · exact Try.isAgg56
  · exact Try.isAgg92
  · exact Try.isAgg93
  · exact Try.isAgg107

def sizeT : Nat → Option Nat
  | 2 => some 1
  | 3 => some 1
  | 4 => some 1
  | 5 => some 1
  | 6 => some 1
  | 21 => some 1
  | 22 => some 1
  | 55 => some 9
  | 56 => some 9
  | 92 => some 2
  | 93 => some 2
  | 107 => some 9
  | _ => none

set_option maxHeartbeats 2000000 in
theorem size_run {t : Nat} {v : _} (h : sizeT t = some v) : ∀ w, (Go.sizeOf t).run Try.prog w = .ok v w := by
  unfold sizeT at h
  split at h <;> (try cases h)
  · exact Try.sizeOf2
  · exact Try.sizeOf3
  · exact Try.sizeOf4
  · exact Try.sizeOf5
  · exact Try.sizeOf6
  · exact Try.sizeOf21
  · exact Try.sizeOf22
  · exact Try.sizeOf55
  · exact Try.sizeOf56
  · exact Try.sizeOf92
  · exact Try.sizeOf93
  · exact Try.sizeOf107

def elT : Nat → Option Nat
  | 22 => some 3
  | _ => none

set_option maxHeartbeats 2000000 in
theorem el_run {t : Nat} {v : _} (h : elT t = some v) : ∀ w, (underlying t).run Try.prog w = .ok (.slice v) w := by
  unfold elT at h
  split at h <;> (try cases h)
  · exact Try.runUnderlying22

def ikT : Nat → Option IntKind
  | 2 => some .i64
  | 3 => some .i64
  | 5 => some .u8
  | 6 => some .u8
  | 21 => some .i32
  | _ => none

set_option maxHeartbeats 2000000 in
theorem ik_run {t : Nat} {v : _} (h : ikT t = some v) : ∀ w, (underlying t).run Try.prog w = .ok (.int v) w := by
  unfold ikT at h
  split at h <;> (try cases h)
  · exact Try.runUnderlying2
  · exact Try.runUnderlying3
  · exact Try.runUnderlying5
  · exact Try.runUnderlying6
  · exact Try.runUnderlying21

def arrT : Nat → Option (Nat × Nat)
  | 107 => some (9, 3)
  | _ => none

set_option maxHeartbeats 2000000 in
theorem arr_run {t : Nat} {v : _} (h : arrT t = some v) : ∀ w, (underlying t).run Try.prog w = .ok (.array v.1 v.2) w := by
  unfold arrT at h
  split at h <;> (try cases h)
  · exact Try.runUnderlying107

def zeroT : Nat → Option Value
  | 2 => some (.int .i64 0)
  | 3 => some (.int .i64 0)
  | 4 => some (.bool false)
  | 5 => some (.int .u8 0)
  | 6 => some (.int .u8 0)
  | 21 => some (.int .i32 0)
  | 22 => some (.slice none 0 0)
  | 55 => some (.agg #[.int .i64 0, .int .i64 0, .int .i64 0, .int .i64 0, .int .i64 0, .int .i64 0, .int .i64 0, .int .i64 0, .int .i64 0])
  | 56 => some (.agg #[.int .i64 0, .int .i64 0, .int .i64 0, .int .i64 0, .int .i64 0, .int .i64 0, .int .i64 0, .int .i64 0, .int .i64 0])
  | 92 => some (.agg #[.int .i64 0, .int .i64 0])
  | 93 => some (.agg #[.int .i64 0, .int .i64 0])
  | 107 => some (.agg #[.int .i64 0, .int .i64 0, .int .i64 0, .int .i64 0, .int .i64 0, .int .i64 0, .int .i64 0, .int .i64 0, .int .i64 0])
  | _ => none

set_option maxHeartbeats 2000000 in
theorem zero_run {t : Nat} {v : _} (h : zeroT t = some v) : ∀ w, (zeroValue t).run Try.prog w = .ok v w := by
  unfold zeroT at h
  split at h <;> (try cases h)
  · exact Try.zeroValue2
  · exact Try.zeroValue3
  · exact Try.zeroValue4
  · exact Try.zeroValue5
  · exact Try.zeroValue6
  · exact Try.zeroValue21
  · exact Try.zeroValue22
  · exact Try.zeroValue55
  · exact Try.zeroValue56
  · exact Try.zeroValue92
  · exact Try.zeroValue93
  · exact Try.zeroValue107

def bytT : Nat → Option (Nat × Nat)
  | 2 => some (1, 8)
  | 3 => some (1, 8)
  | 4 => some (1, 1)
  | 5 => some (1, 1)
  | 6 => some (1, 1)
  | 21 => some (1, 4)
  | 22 => some (1, 24)
  | 55 => some (9, 72)
  | 56 => some (9, 72)
  | 92 => some (2, 16)
  | 93 => some (2, 16)
  | 107 => some (9, 72)
  | _ => none

set_option maxHeartbeats 2000000 in
theorem byt_run {t : Nat} {v : _} (h : bytT t = some v) : ∃ i, (∀ w, (typeInfo t).run Try.prog w = .ok i w) ∧ i.size = v.1 ∧ i.bytes = v.2 := by
  unfold bytT at h
  split at h <;> (try cases h)
  · exact ⟨_, Try.typeInfo2, rfl, rfl⟩
  · exact ⟨_, Try.typeInfo3, rfl, rfl⟩
  · exact ⟨_, Try.typeInfo4, rfl, rfl⟩
  · exact ⟨_, Try.typeInfo5, rfl, rfl⟩
  · exact ⟨_, Try.typeInfo6, rfl, rfl⟩
  · exact ⟨_, Try.typeInfo21, rfl, rfl⟩
  · exact ⟨_, Try.typeInfo22, rfl, rfl⟩
  · exact ⟨_, Try.typeInfo55, rfl, rfl⟩
  · exact ⟨_, Try.typeInfo56, rfl, rfl⟩
  · exact ⟨_, Try.typeInfo92, rfl, rfl⟩
  · exact ⟨_, Try.typeInfo93, rfl, rfl⟩
  · exact ⟨_, Try.typeInfo107, rfl, rfl⟩

def fldT56 : Nat → Option Nat
  | 0 => some 0
  | 1 => some 1
  | 2 => some 2
  | 3 => some 3
  | 4 => some 4
  | 5 => some 5
  | 6 => some 6
  | 7 => some 7
  | 8 => some 8
  | _ => none

def fldT93 : Nat → Option Nat
  | 0 => some 0
  | 1 => some 1
  | _ => none

def fldT : Nat → Nat → Option Nat
  | 56, j => fldT56 j
  | 93, j => fldT93 j
  | _, _ => none

theorem fld_56_0 : ∀ b o w, (Instr.fieldAt 56 (.pointer (some ⟨b, o, none⟩)) 0).run Try.prog w = .ok (.pointer (some ⟨b, o + 0, none⟩)) w := fieldAt_run Try.runUnderlying56 rfl Try.sizeOf3 rfl rfl
theorem fld_56_1 : ∀ b o w, (Instr.fieldAt 56 (.pointer (some ⟨b, o, none⟩)) 1).run Try.prog w = .ok (.pointer (some ⟨b, o + 1, none⟩)) w := fieldAt_run Try.runUnderlying56 rfl Try.sizeOf3 rfl rfl
theorem fld_56_2 : ∀ b o w, (Instr.fieldAt 56 (.pointer (some ⟨b, o, none⟩)) 2).run Try.prog w = .ok (.pointer (some ⟨b, o + 2, none⟩)) w := fieldAt_run Try.runUnderlying56 rfl Try.sizeOf3 rfl rfl
theorem fld_56_3 : ∀ b o w, (Instr.fieldAt 56 (.pointer (some ⟨b, o, none⟩)) 3).run Try.prog w = .ok (.pointer (some ⟨b, o + 3, none⟩)) w := fieldAt_run Try.runUnderlying56 rfl Try.sizeOf3 rfl rfl
theorem fld_56_4 : ∀ b o w, (Instr.fieldAt 56 (.pointer (some ⟨b, o, none⟩)) 4).run Try.prog w = .ok (.pointer (some ⟨b, o + 4, none⟩)) w := fieldAt_run Try.runUnderlying56 rfl Try.sizeOf3 rfl rfl
theorem fld_56_5 : ∀ b o w, (Instr.fieldAt 56 (.pointer (some ⟨b, o, none⟩)) 5).run Try.prog w = .ok (.pointer (some ⟨b, o + 5, none⟩)) w := fieldAt_run Try.runUnderlying56 rfl Try.sizeOf3 rfl rfl
theorem fld_56_6 : ∀ b o w, (Instr.fieldAt 56 (.pointer (some ⟨b, o, none⟩)) 6).run Try.prog w = .ok (.pointer (some ⟨b, o + 6, none⟩)) w := fieldAt_run Try.runUnderlying56 rfl Try.sizeOf3 rfl rfl
theorem fld_56_7 : ∀ b o w, (Instr.fieldAt 56 (.pointer (some ⟨b, o, none⟩)) 7).run Try.prog w = .ok (.pointer (some ⟨b, o + 7, none⟩)) w := fieldAt_run Try.runUnderlying56 rfl Try.sizeOf3 rfl rfl
theorem fld_56_8 : ∀ b o w, (Instr.fieldAt 56 (.pointer (some ⟨b, o, none⟩)) 8).run Try.prog w = .ok (.pointer (some ⟨b, o + 8, none⟩)) w := fieldAt_run Try.runUnderlying56 rfl Try.sizeOf3 rfl rfl
theorem fld_93_0 : ∀ b o w, (Instr.fieldAt 93 (.pointer (some ⟨b, o, none⟩)) 0).run Try.prog w = .ok (.pointer (some ⟨b, o + 0, none⟩)) w := fieldAt_run Try.runUnderlying93 rfl Try.sizeOf3 rfl rfl
theorem fld_93_1 : ∀ b o w, (Instr.fieldAt 93 (.pointer (some ⟨b, o, none⟩)) 1).run Try.prog w = .ok (.pointer (some ⟨b, o + 1, none⟩)) w := fieldAt_run Try.runUnderlying93 rfl Try.sizeOf3 rfl rfl
theorem fldr_56 {k off : Nat} (h : fldT56 k = some off) : ∀ b o w, (Instr.fieldAt 56 (.pointer (some ⟨b, o, none⟩)) k).run Try.prog w = .ok (.pointer (some ⟨b, o + off, none⟩)) w := by
  unfold fldT56 at h
  split at h <;> (try cases h)
  · exact fld_56_0
  · exact fld_56_1
  · exact fld_56_2
  · exact fld_56_3
  · exact fld_56_4
  · exact fld_56_5
  · exact fld_56_6
  · exact fld_56_7
  · exact fld_56_8

theorem fldr_93 {k off : Nat} (h : fldT93 k = some off) : ∀ b o w, (Instr.fieldAt 93 (.pointer (some ⟨b, o, none⟩)) k).run Try.prog w = .ok (.pointer (some ⟨b, o + off, none⟩)) w := by
  unfold fldT93 at h
  split at h <;> (try cases h)
  · exact fld_93_0
  · exact fld_93_1

set_option maxHeartbeats 2000000 in
theorem fld_run {s k off : Nat} (h : fldT s k = some off) : ∀ b o w, (Instr.fieldAt s (.pointer (some ⟨b, o, none⟩)) k).run Try.prog w = .ok (.pointer (some ⟨b, o + off, none⟩)) w := by
  unfold fldT at h
  split at h
  · exact fldr_56 h
  · exact fldr_93 h
  · cases h

theorem sl_22 : SlFact Try.prog 22 3 1 8 [.int .i64 0] := SlFact.mk' (z := .int .i64 0) Try.underlying22 (by kernel_rfl) rfl rfl (by decide)
def slT : Nat → Option (Nat × Nat × Nat × List Value)
  | 22 => some (3, 1, 8, [.int .i64 0])
  | _ => none

theorem sl_run {t el sz bt : Nat} {zs : List Value} (h : slT t = some (el, sz, bt, zs)) : SlFact Try.prog t el sz bt zs := by
  unfold slT at h
  split at h <;> (try cases h)
  · exact sl_22

set_option maxHeartbeats 1000000 in
theorem bld_93_0_1 {e : Env} {x0 x1 : Operand} {n0 : Int} {n1 : Int} (h0 : ev e x0 = .int .i64 n0) (h1 : ev e x1 = .int .i64 n1) : ∀ w, (Instr.build 93 #[(0, ev e x0), (1, ev e x1)]).run Try.prog w = .ok (.agg #[.int .i64 n0, .int .i64 n1]) w := by
  intro w
  rw [h0, h1]
  simp [Instr.build, go_sem]

set_option maxHeartbeats 1000000 in
theorem bsl_22_3_0_1_2 {e : Env} {x0 x1 x2 : Operand} {n0 : Int} {n1 : Int} {n2 : Int} (h0 : ev e x0 = .int .i64 n0) (h1 : ev e x1 = .int .i64 n1) (h2 : ev e x2 = .int .i64 n2) : ∀ w, (Instr.buildSlice 22 3 #[(0, ev e x0), (1, ev e x1), (2, ev e x2)]).run Try.prog w = .ok (.slice (some ⟨w.heap.size, 0, none⟩) 3 3) (w.alloc (.cells ([.int .i64 n0, .int .i64 n1, .int .i64 n2] : List Value).toArray 3)) := by
  intro w
  rw [h0, h1, h2]
  simp [Instr.buildSlice, go_sem]

def funT : Nat → Bool
  | 26 => true
  | 35 => true
  | 36 => true
  | 37 => true
  | 38 => true
  | 40 => true
  | 41 => true
  | 44 => true
  | 53 => true
  | _ => false

set_option maxHeartbeats 2000000 in
theorem fun_run {f : Nat} (h : funT f = true) : ∀ (args : Array Value) (w : World), (callFunc f args).run Try.prog w = .ok (.enter f args) w := by
  unfold funT at h
  split at h <;> (try cases h)
  · exact Try.call26
  · exact Try.call35
  · exact Try.call36
  · exact Try.call37
  · exact Try.call38
  · exact Try.call40
  · exact Try.call41
  · exact Try.call44
  · exact Try.call53

theorem mixed : Try.prog.follows .mixedOrders = true := by kernel_rfl

end Go.Proofs.Ytchjbjplddhknaa.D

/-
  Regions whose order is open and that make memory in more than one place: quiet operations are taken first, over the others it is branched.
-/
set_option linter.all false
namespace Go.WD
open Go.RowKit
structure OPH (P : Program) (N : Nat) (ops : Array Oper) (K : Env → World → Prop) (w0 : World) (S : List Nat) (L : List Blk) (fuel : Nat) (listed : Array Bool) (e : Env) (w : World) : Prop where
  run : ∀ a : Act, envOf a = e → a.tmps.size = N → a.defers = [] → wpAnyH P .any ops (post N K NoX NoR) (fun w' => SH w0 S w' L) fuel listed a w
section
variable {P : Program} {N : Nat} {ops : Array Oper} {K : Env → World → Prop} {Kn : Env → World → Prop} {Kx : Nat → Env → World → Prop} {Kr : Env → World → Prop} {e : Env} {w w0 : World} {S : List Nat} {L : List Blk} {fuel : Nat} {listed : Array Bool}
theorem WP.rheld {id : Nat} (hm : P.follows .mixedOrders = true) (H : SH w0 S w L) (h : ∀ w', Bel w.heap.size w w' → SH w0 S w' L → OPH P N ops Kn w0 S L ops.size (Array.replicate ops.size false) e w') : WP P N (.region id ops true) Kn Kx Kr e w :=
  ⟨fun a h1 h2 h3 => Code.wp_mono post_up (wp_region_held (S := fun w' => SH w0 S w' L) hm ((h { w with drawn := w.drawn + 1 } ⟨⟨rfl, rfl, rfl, Nat.le_refl _, fun _ _ => rfl⟩, Nat.le_succ _⟩ H.drew).run a h1 h2 h3))⟩
theorem WP.rheldC {id : Nat} (M : List Nat) (I : Env → World → Prop) (hm : P.follows .mixedOrders = true) (H : SH w0 S w L)
    (h : ∀ w', Bel w.heap.size w w' → SH w0 S w' L → OPH P N ops (fun e' w' => Agree M e' e ∧ I e' w') w0 S L ops.size (Array.replicate ops.size false) e w') (hk : ∀ u w', I u w' → Kn (WD.mix M u e) w') : WP P N (.region id ops true) Kn Kx Kr e w :=
  WP.mono (WP.rheld (Kn := fun e' w' => Agree M e' e ∧ I e' w') (Kx := Kx) (Kr := Kr) hm H h) (fun e' w' hh => by rw [hh.1.eq]; exact hk e' w' hh.2) (fun _ _ _ h => h) (fun _ _ h => h)
theorem OPH.take (i : Nat) {oi : Oper} {d : Nat} {v : Value} {f : Nat} (hi : ops[i]? = some oi) (hg : oi.guard = none) (hd : oi.dst = some d) (hN : Nat.blt d N = true) (hs : Region.noSelect ops = true) (hf : Region.free .any ops listed i = true)
    (hr : (Region.ready .any ops listed).contains i = true) (hfu : fuel = f + 1) (H : SH w0 S w L) (hE : ∀ w', SH w0 S w' L → Ev P e w' oi.type oi.op v)
    (h : OPH P N ops K w0 S L f (listed.setIfInBounds i true) (upd e d v) w) : OPH P N ops K w0 S L fuel listed e w :=
  ⟨fun a h1 h2 h3 => by
    subst hfu
    have hn := h.run (a.put (some d) v) (by rw [envOf_put v h2 hN, h1]) (by rw [size_put]; exact h2) (by rw [defers_put]; exact h3)
    refine wpAnyH_take hi hs hf hr (fun c a w hh => by simp only [post] at hh) (v := v) (.inl ⟨wanted_none hg _, fun w' hw' => ?_⟩) H (by rw [hd]; exact hn)
    have := (hE w' hw').run w' (Bel.refl _ _) oi rfl rfl
    rw [eval_eq, h1]; exact this⟩
theorem OPH.all (rs : List Nat) {f : Nat} (hr : Region.ready .any ops listed = rs) (hne : rs ≠ []) (hfu : fuel = f + 1)
    (h : ∀ i ∈ rs, ∃ o, ops[i]? = some o ∧ OPS P N .plain ops (fun e' w' => SH w0 S w' L ∧ OPH P N ops K w0 S L f (listed.setIfInBounds i true) e' w') [o] e w) : OPH P N ops K w0 S L fuel listed e w :=
  ⟨fun a h1 h2 h3 => by
    subst hfu
    refine wpAnyH_all hr hne fun i hi => ?_
    obtain ⟨o, ho, hO⟩ := h i hi
    have hl := hO.run a h1 h2 h3
    simp only at hl
    unfold wpList at hl
    unfold wpOp
    simp only [ho]
    split
    · rename_i hw
      rw [if_pos hw] at hl
      rcases hl with hl | ⟨_, _, _, hl⟩
      · refine .inl ?_
        unfold Oper.wp at hl ⊢
        generalize (execOp a.eval o).run P w = r at hl ⊢
        have key : ∀ a' w', wpList P ops (post N (fun e' w' => SH w0 S w' L ∧ OPH P N ops K w0 S L f (listed.setIfInBounds i true) e' w') NoX NoR) [] a' w' → SH w0 S w' L ∧ wpAnyH P .any ops (post N K NoX NoR) (fun w' => SH w0 S w' L) f (listed.setIfInBounds i true) a' w' := by
          intro a' w' hh
          have hh : a'.tmps.size = N ∧ a'.defers = [] ∧ _ := hh
          exact ⟨hh.2.2.1, hh.2.2.2.run a' rfl hh.1 hh.2.1⟩
        cases r with
        | ok n w' =>
          cases n <;> simp only [Oper.upon] at hl ⊢
          case value u => exact key _ _ hl
          case skip => exact key _ _ hl
          case defer d => exact key _ _ hl
          case enter g args =>
            refine Calls.mono hl ?_
            intro e' w'' he
            cases e' with
            | returned u => exact key _ _ he
            | panicked c => simp only [post] at he
            | outgrown => obtain ⟨_, _, he⟩ := he; simp only [post] at he
          case row row args => exact Rows.mono hl fun u w'' he => key _ _ he
        | halt x w' =>
          cases x <;> simp only [Oper.upon] at hl ⊢
          case panic u => simp only [post] at hl
      · simp only [post] at hl
    · rename_i hw
      rw [if_neg hw] at hl
      have hl : (a.put o.dst undef).tmps.size = N ∧ (a.put o.dst undef).defers = [] ∧ _ := hl
      exact ⟨hl.2.2.1, hl.2.2.2.run _ rfl hl.1 hl.2.1⟩⟩
theorem OPH.done (hr : Region.ready .any ops listed = []) (h : K e w) : OPH P N ops K w0 S L fuel listed e w := ⟨fun _ h1 h2 h3 => wpAnyH_done hr ⟨h2, h3, h1 ▸ h⟩ fuel⟩
end
end Go.WD

/-
  Words for what arguments read as: lists of one-cell elements, lists of elements of several cells.
-/
set_option linter.all false
namespace Go.WD
open Go.RowKit
abbrev I (n : Int) : Value := .int .i64 n
abbrev Bo (b : Bool) : Value := .bool b
/-- the slice of address A holds the list l, an element a cell -/
def OnesAt {α : Type} (enc : α → Value) (w : World) (A : Option Addr) (l : List α) : Prop := ∀ k (hk : k < l.length), ∃ b o, A = some ⟨b, o, none⟩ ∧ w.cell? ⟨b, o + k, none⟩ = some (enc (l[k]'hk))
theorem OnesAt.below {α : Type} {enc : α → Value} {w w' : World} {A : Option Addr} {l : List α} (h : OnesAt enc w A l) (hb : Bel w.heap.size w w') : OnesAt enc w' A l := fun k hk => by
  obtain ⟨b, o, h1, h2⟩ := h k hk
  exact ⟨b, o, h1, cell_below hb h2⟩
theorem OnesAt.sh {α : Type} {enc : α → Value} {w0 w : World} {L : List Blk} {A : Option Addr} {l : List α} (h : OnesAt enc w0 A l) (H : SH w0 [] w L) : OnesAt enc w A l := fun k hk => by
  obtain ⟨b, o, h1, h2⟩ := h k hk
  exact ⟨b, o, h1, H.ld0 h2⟩
theorem OnesAt.nil {α : Type} {enc : α → Value} {w : World} {A : Option Addr} : OnesAt enc w A [] := fun k hk => absurd hk (by simp)
/-- an own block that begins with the list -/
theorem OnesAt.own {α : Type} {enc : α → Value} {w0 w : World} {S : List Nat} {L : List Blk} (H : SH w0 S w L) (i : Nat) {b : Blk} (hi : L[i]? = some b) {l : List α} {post : List Value} (hc : b.cs = l.map enc ++ post) :
    OnesAt enc w (some ⟨b.g, 0, none⟩) l := fun k hk => ⟨b.g, 0, rfl, by
  have h1 : b.cs[k]? = some (enc (l[k]'hk)) := by
    rw [hc, List.getElem?_append_left (by simpa using hk), List.getElem?_map, List.getElem?_eq_getElem hk]; rfl
  rw [Nat.zero_add]
  exact H.ldL i hi k h1⟩
abbrev IntsAt := OnesAt I
abbrev BoolsAt := OnesAt Bo
/-- the slice of address A holds the list l, an element sz cells -/
def RowsAt {α : Type} (sz : Nat) (enc : α → List Value) (w : World) (A : Option Addr) (l : List α) : Prop := ∀ k (hk : k < l.length), ∃ b o, A = some ⟨b, o, none⟩ ∧ cellsAt w b (o + k * sz) (enc (l[k]'hk))
theorem RowsAt.below {α : Type} {sz : Nat} {enc : α → List Value} {w w' : World} {A : Option Addr} {l : List α} (h : RowsAt sz enc w A l) (hb : Bel w.heap.size w w') : RowsAt sz enc w' A l := fun k hk => by
  obtain ⟨b, o, h1, h2⟩ := h k hk
  exact ⟨b, o, h1, cellsAt_below hb h2⟩
theorem cellsAt_sh {w0 w : World} {L : List Blk} (H : SH w0 [] w L) {b : Nat} : ∀ {vs : List Value} {o : Nat}, cellsAt w0 b o vs → cellsAt w b o vs
  | [], _, _ => trivial
  | _ :: _, _, h => ⟨H.ld0 h.1, cellsAt_sh H h.2⟩
theorem RowsAt.sh {α : Type} {sz : Nat} {enc : α → List Value} {w0 w : World} {L : List Blk} {A : Option Addr} {l : List α} (h : RowsAt sz enc w0 A l) (H : SH w0 [] w L) : RowsAt sz enc w A l := fun k hk => by
  obtain ⟨b, o, h1, h2⟩ := h k hk
  exact ⟨b, o, h1, cellsAt_sh H h2⟩
theorem RowsAt.nil {α : Type} {sz : Nat} {enc : α → List Value} {w : World} {A : Option Addr} : RowsAt sz enc w A [] := fun k hk => absurd hk (by simp)
theorem SH.ldS {w0 w : World} {S : List Nat} {L : List Blk} (h : SH w0 S w L) {a : Addr} {v : Value} (hc : w0.cell? a = some v) (hS : a.block ∉ S) : w.cell? a = some v :=
  (World.cell?_of_block (w := w0) (h.low a.block (cell_lt hc) hS)).trans hc
/-- the address of a slice lies in none of these blocks -/
def Off (A : Option Addr) (S : List Nat) : Prop := ∀ b o, A = some ⟨b, o, none⟩ → b ∉ S
theorem Off.nil {A : Option Addr} : Off A [] := fun _ _ _ => by simp
theorem OnesAt.shS {α : Type} {enc : α → Value} {w0 w : World} {S : List Nat} {L : List Blk} {A : Option Addr} {l : List α} (h : OnesAt enc w0 A l) (hS : Off A S) (H : SH w0 S w L) : OnesAt enc w A l := fun k hk => by
  obtain ⟨b, o, h1, h2⟩ := h k hk
  exact ⟨b, o, h1, H.ldS h2 (hS b o h1)⟩
theorem cellsAt_shS {w0 w : World} {S : List Nat} {L : List Blk} (H : SH w0 S w L) {b : Nat} (hS : b ∉ S) : ∀ {vs : List Value} {o : Nat}, cellsAt w0 b o vs → cellsAt w b o vs
  | [], _, _ => trivial
  | _ :: _, _, h => ⟨H.ldS h.1 hS, cellsAt_shS H hS h.2⟩
theorem RowsAt.shS {α : Type} {sz : Nat} {enc : α → List Value} {w0 w : World} {S : List Nat} {L : List Blk} {A : Option Addr} {l : List α} (h : RowsAt sz enc w0 A l) (hS : Off A S) (H : SH w0 S w L) : RowsAt sz enc w A l := fun k hk => by
  obtain ⟨b, o, h1, h2⟩ := h k hk
  exact ⟨b, o, h1, cellsAt_shS H (hS b o h1) h2⟩
/-- the blocks of a list, as a callee that may write them gets them -/
theorem SH.restart {w0 w : World} {S : List Nat} {L Lv : List Blk} (H : SH w0 S w L) (hs : Lv.Sublist L) : SH w (Lv.map (·.g)) w Lv :=
  ⟨rfl, rfl, rfl, Nat.le_refl _, fun _ _ _ => rfl, fun b hb => H.own b (hs.subset hb), fun b hb => .inr (List.mem_map_of_mem hb), (hs.map _).nodup H.nodup, Nat.le_refl _⟩
/-- behind a call that may have written the blocks Lv -/
theorem SH.call {w0 w w' : World} {S : List Nat} {L1 Lv Lv' : List Blk} (H : SH w0 S w (L1 ++ Lv)) (Hc : SH w (Lv.map (·.g)) w' Lv') : SH w0 S w' (L1 ++ Lv') where
  os := Hc.os.trans H.os
  tape := Hc.tape.trans H.tape
  drawn := Nat.le_trans H.drawn Hc.drawn
  output := Hc.output.trans H.output
  size := Nat.le_trans H.size Hc.size
  low k hk hS := by
    rw [Hc.low k (Nat.lt_of_lt_of_le hk H.size) (fun hm => ?_)]
    · exact H.low k hk hS
    · obtain ⟨b, hb, rfl⟩ := List.mem_map.1 hm
      rcases H.may b (List.mem_append_right _ hb) with h | h
      · omega
      · exact hS h
  own b hb := by
    rcases List.mem_append.1 hb with h | h
    · rw [Hc.low b.g (H.lt (List.mem_append_left _ h)) (fun hm => ?_)]
      · exact H.own b (List.mem_append_left _ h)
      · have hn := H.nodup
        rw [List.map_append, List.nodup_append] at hn
        exact hn.2.2 b.g (List.mem_map_of_mem h) b.g hm rfl
    · exact Hc.own b h
  may b hb := by
    rcases List.mem_append.1 hb with h | h
    · exact H.may b (List.mem_append_left _ h)
    · rcases Hc.may b h with h2 | h2
      · exact .inl (Nat.le_trans H.size h2)
      · obtain ⟨c, hc, he⟩ := List.mem_map.1 h2
        rw [← he]; exact H.may c (List.mem_append_right _ hc)
  nodup := by
    have hn := H.nodup
    rw [List.map_append, List.nodup_append] at hn ⊢
    refine ⟨hn.1, Hc.nodup, fun a ha b hb he => ?_⟩
    subst he
    obtain ⟨c, hc, rfl⟩ := List.mem_map.1 ha
    obtain ⟨d, hd, hde⟩ := List.mem_map.1 hb
    rcases Hc.may d hd with h2 | h2
    · have := H.lt (List.mem_append_left _ hc); omega
    · rw [hde] at h2
      exact hn.2.2 c.g (List.mem_map_of_mem hc) c.g h2 rfl
theorem SH.fresh {w0 w : World} {L : List Blk} (H : SH w0 [] w L) : ∀ g ∈ L.map (·.g), w0.heap.size ≤ g := fun g hg => by
  obtain ⟨b, hb, rfl⟩ := List.mem_map.1 hg
  rcases H.may b hb with h | h
  · exact h
  · simp at h
theorem OnesAt.off {α : Type} {enc : α → Value} {w0 : World} {A : Option Addr} {l : List α} {gs : List Nat} (h : OnesAt enc w0 A l) (hg : ∀ g ∈ gs, w0.heap.size ≤ g) : l ≠ [] → Off A gs := fun hl b o he hm => by
  subst he
  obtain ⟨b', o', h1, h2⟩ := h 0 (List.length_pos_iff.2 hl)
  cases h1
  have h3 := cell_lt h2
  have h3 : b < w0.heap.size := h3
  have := hg b hm
  omega
theorem RowsAt.off {α : Type} {sz : Nat} {enc : α → List Value} {w0 : World} {A : Option Addr} {l : List α} {gs : List Nat} (h : RowsAt sz enc w0 A l) (hne : ∀ x, enc x ≠ []) (hg : ∀ g ∈ gs, w0.heap.size ≤ g) : l ≠ [] → Off A gs := fun hl b o he hm => by
  subst he
  obtain ⟨b', o', h1, h2⟩ := h 0 (List.length_pos_iff.2 hl)
  cases h1
  have hgb := hg b hm
  generalize hx : enc (l[0]'(List.length_pos_iff.2 hl)) = vs at h2
  match vs, h2 with
  | [], _ => exact hne _ hx
  | v :: vs, h2 =>
    have h3 : b < w0.heap.size := cell_lt h2.1
    omega
/-- some of the blocks, in another order -/
theorem SH.reidx {w0 w : World} {S : List Nat} {L L' : List Blk} (H : SH w0 S w L) (idx : List Nat) (hn : idx.Nodup) (hi : idx.map (fun i => L[i]?) = L'.map some) : SH w0 S w L' := by
  have hlen : idx.length = L'.length := by have := congrArg List.length hi; simpa using this
  have hat : ∀ p (h : p < L'.length), L[idx[p]'(by omega)]? = some L'[p] := by
    intro p h
    have := congrArg (fun l => l[p]?) hi
    simp only [List.getElem?_map] at this
    rw [List.getElem?_eq_getElem (by omega), List.getElem?_eq_getElem h] at this
    simpa using this
  have hmem : ∀ b ∈ L', b ∈ L := by
    intro b hb
    obtain ⟨p, hp, rfl⟩ := List.mem_iff_getElem.1 hb
    exact List.mem_of_getElem? (hat p hp)
  refine ⟨H.os, H.tape, H.output, H.size, H.low, fun b hb => H.own b (hmem b hb), fun b hb => H.may b (hmem b hb), ?_, H.drawn⟩
  rw [List.nodup_iff_pairwise_ne, List.pairwise_iff_getElem]
  intro p q hp hq hpq
  simp only [List.length_map] at hp hq
  have h1 := hat p hp
  have h2 := hat q hq
  have hne : idx[p]'(by omega) ≠ idx[q]'(by omega) := by
    rw [List.nodup_iff_pairwise_ne, List.pairwise_iff_getElem] at hn
    exact hn p q (by omega) (by omega) hpq
  generalize idx[p]'(by omega) = i at *
  generalize idx[q]'(by omega) = j at *
  obtain ⟨hi1, hi2⟩ := List.getElem?_eq_some_iff.1 h1
  obtain ⟨hj1, hj2⟩ := List.getElem?_eq_some_iff.1 h2
  have hd := H.nodup
  rw [List.nodup_iff_pairwise_ne, List.pairwise_iff_getElem] at hd
  simp only [List.getElem_map]
  rcases Nat.lt_or_gt_of_ne hne with h | h
  · have := hd i j (by simpa) (by simpa) h
    simpa [hi2, hj2] using this
  · have := hd j i (by simpa) (by simpa) h
    simp [hi2, hj2] at this
    exact fun he => this he.symm
/-- what lies off the blocks at the start lies off those that stand later -/
theorem Off.later {α : Type} {enc : α → Value} {w0 w : World} {gs : List Nat} {L : List Blk} {A : Option Addr} {l : List α} (h : OnesAt enc w0 A l) (hg : l ≠ [] → Off A gs) (H : SH w0 gs w L) : l ≠ [] → Off A (L.map (·.g)) := fun hl b o he hm => by
  have hoff := hg hl b o he
  subst he
  obtain ⟨b', o', h1, h2⟩ := h 0 (List.length_pos_iff.2 hl)
  cases h1
  have h3 : b < w0.heap.size := cell_lt h2
  obtain ⟨c, hc, rfl⟩ := List.mem_map.1 hm
  rcases H.may c hc with h4 | h4
  · omega
  · exact hoff h4
theorem ret_eq {v v' : Value} (h : v = v') : Ending.returned v = .returned v' := by rw [h]
theorem ret_int {a b : Int} (h : a = b) : Ending.returned (I a) = .returned (I b) := by rw [h]
end Go.WD

/-
  Own blocks that hold rows of several cells: reading and writing an element.
-/
set_option linter.all false
namespace Go.WD
open Go.RowKit
section
variable {α : Type} {enc : α → List Value} {sz : Nat}
theorem rows_length (hsz : ∀ x, (enc x).length = sz) (l : List α) : (l.flatMap enc).length = l.length * sz := by
  induction l with
  | nil => simp
  | cons x l ih => simp only [List.flatMap_cons, List.length_append, hsz, ih, List.length_cons, Nat.succ_mul]; omega
theorem rows_get (hsz : ∀ x, (enc x).length = sz) : ∀ (l : List α) (k j : Nat) (hk : k < l.length), j < sz → (l.flatMap enc)[k * sz + j]? = (enc (l[k]'hk))[j]?
  | [], _, _, hk, _ => by simp at hk
  | x :: l, 0, j, _, hj => by
    simp only [List.flatMap_cons, Nat.zero_mul, Nat.zero_add, List.getElem_cons_zero]
    rw [List.getElem?_append_left (by rw [hsz]; exact hj)]
  | x :: l, k + 1, j, hk, hj => by
    simp only [List.flatMap_cons, List.getElem_cons_succ]
    rw [List.getElem?_append_right (by rw [hsz, Nat.succ_mul]; omega), hsz, show (k + 1) * sz + j - sz = k * sz + j by rw [Nat.succ_mul]; omega]
    exact rows_get hsz l k j (by simpa using hk) hj
theorem putL_append_right (pre : List Value) : ∀ (vs cs : List Value) (k : Nat), putL (pre ++ cs) (pre.length + k) vs = pre ++ putL cs k vs
  | [], _, _ => rfl
  | v :: vs, cs, k => by
    rw [putL, putL, List.set_append_right _ _ (by omega), show pre.length + k - pre.length = k by omega, show pre.length + k + 1 = pre.length + (k + 1) by omega]
    exact putL_append_right pre vs _ _
theorem putL_whole : ∀ (vs old : List Value) (post : List Value), old.length = vs.length → putL (old ++ post) 0 vs = vs ++ post
  | [], [], _, _ => rfl
  | v :: vs, u :: old, post, h => by
    rw [putL]
    have := putL_append_right [v] vs (old ++ post) 0
    simp only [List.cons_append, List.set_cons_zero, List.nil_append, List.length_cons, List.length_nil, Nat.zero_add, Nat.add_zero] at this ⊢
    rw [this, putL_whole vs old post (by simpa using h)]
  | [], _ :: _, _, h => by simp at h
  | _ :: _, [], _, h => by simp at h
theorem putL_rows (hsz : ∀ x, (enc x).length = sz) : ∀ (l : List α) (k : Nat) (x : α), k < l.length → putL (l.flatMap enc) (k * sz) (enc x) = (l.set k x).flatMap enc
  | [], _, _, h => by simp at h
  | y :: l, 0, x, _ => by
    simp only [List.flatMap_cons, Nat.zero_mul, List.set_cons_zero]
    exact putL_whole _ _ _ (by rw [hsz, hsz])
  | y :: l, k + 1, x, h => by
    simp only [List.flatMap_cons, List.set_cons_succ]
    rw [show (k + 1) * sz = (enc y).length + k * sz by rw [hsz, Nat.succ_mul]; omega, putL_append_right, putL_rows hsz l k x (by simpa using h)]
theorem rowsOwn {w0 w : World} {S : List Nat} {L : List Blk} (hsz : ∀ x, (enc x).length = sz) (H : SH w0 S w L) (i : Nat) {g : Nat} {T : TypeId} {l : List α} {post : List Value} (hi : L[i]? = some ⟨g, T, l.flatMap enc ++ post⟩) :
    RowsAt sz enc w (some ⟨g, 0, none⟩) l := fun k hk => ⟨g, 0, rfl, by
  refine cellsAt_own H i hi _ _ fun j hj => ?_
  rw [hsz] at hj
  have hlen := rows_length hsz l
  have hkk : k * sz + sz ≤ l.length * sz := by rw [← Nat.succ_mul]; exact Nat.mul_le_mul_right _ hk
  rw [Nat.zero_add, List.getElem?_append_left (by rw [hlen]; omega), rows_get hsz l k j hk hj, List.getElem?_eq_getElem]⟩
theorem rowsOwn' {w0 w : World} {S : List Nat} {L : List Blk} (hsz : ∀ x, (enc x).length = sz) (H : SH w0 S w L) (i : Nat) {g : Nat} {T : TypeId} {l : List α} (hi : L[i]? = some ⟨g, T, l.flatMap enc⟩) :
    RowsAt sz enc w (some ⟨g, 0, none⟩) l := rowsOwn (post := []) hsz H i (by simpa using hi)
theorem mkL_rows (n : Nat) (x : α) : mkL n (enc x) = (List.replicate n x).flatMap enc := by
  induction n with
  | zero => rfl
  | succ n ih => simp only [mkL, List.replicate_succ, List.flatten_cons, List.flatMap_cons] at ih ⊢; rw [ih]
theorem mkL_ones {enc1 : α → Value} (n : Nat) (x : α) : mkL n [enc1 x] = (List.replicate n x).map enc1 := by rw [mkL_one]; simp
end
theorem OwnS.rows {α : Type} {enc : α → List Value} {sz : Nat} (hsz : ∀ x, (enc x).length = sz) (hp : 0 < sz) {w0 w : World} {S : List Nat} {A : Option Addr} {cap n el : Nat} {l : List α} {R Lo : List Blk} (h : OwnS A cap n (l.flatMap enc) el sz Lo) (H : SH w0 S w (R ++ Lo)) :
    RowsAt sz enc w A l ∧ l.length = n := by
  have hl : l.length = n := by
    have := h.len
    rw [rows_length hsz] at this
    exact Nat.eq_of_mul_eq_mul_right hp this
  refine ⟨?_, hl⟩
  rcases h.form with ⟨rfl, h0, _, _⟩ | ⟨g, sp, rfl, rfl, _⟩
  · intro k hk; omega
  · exact rowsOwn (T := el) (post := sp) hsz H R.length (by simp)
theorem OwnS.ones {α : Type} {enc : α → Value} {w0 w : World} {S : List Nat} {A : Option Addr} {cap n el : Nat} {l : List α} {R Lo : List Blk} (h : OwnS A cap n (l.map enc) el 1 Lo) (H : SH w0 S w (R ++ Lo)) :
    OnesAt enc w A l ∧ l.length = n := by
  have hl : l.length = n := by simpa using h.len
  refine ⟨?_, hl⟩
  rcases h.form with ⟨rfl, h0, _, _⟩ | ⟨g, sp, rfl, rfl, _⟩
  · intro k hk; omega
  · exact OnesAt.own (b := ⟨g, el, l.map enc ++ sp⟩) H R.length (by simp) (post := sp) rfl
theorem onesOwn {α : Type} {enc : α → Value} {w0 w : World} {S : List Nat} {L : List Blk} (H : SH w0 S w L) (i : Nat) {g : Nat} {T : TypeId} {l : List α} (hi : L[i]? = some ⟨g, T, l.map enc⟩) : OnesAt enc w (some ⟨g, 0, none⟩) l :=
  OnesAt.own (b := ⟨g, T, l.map enc⟩) H i hi (post := []) (by simp)
/-- a store of one element -/
theorem putL_ones {α : Type} {enc : α → Value} (l : List α) (k : Nat) (x : α) : putL (l.map enc) k [enc x] = (l.set k x).map enc := by simp [putL, List.map_set]
end Go.WD

/-
  More rules: copy.
-/
set_option linter.all false
namespace Go.WD
open Go.RowKit
section
variable {P : Program} {N : Nat} {ops : Array Oper} {K : Env → World → Prop} {e : Env} {w w0 : World} {S : List Nat} {L : List Blk} {rest : List Oper} {o : Oper} {t : TypeId} {x y : Operand}
/-- copy of a whole list into a block of the call's own; elements of one cell -/
theorem OPS.copy {d el n sb so c c' : Nat} {b : Blk} {vs : List Value} (i k : Nat) (hg : o.guard = none) (hd : o.dst = some d) (hN : Nat.blt d N = true)
    (hop : o.op = .call { callee := .builtin .copy, args := #[x, y], argTypes := #[t, t] }) (hU : ∀ w, (underlying t).run P w = .ok (.slice el) w) (hs : ∀ w, (Go.sizeOf el).run P w = .ok 1 w)
    (hx : ev e x = .slice (some ⟨b.g, k, none⟩) n c) (hy : ev e y = .slice (some ⟨sb, so, none⟩) n c') (hn : vs.length = n) (hsrc : cellsAt w sb so vs) (h1 : (vs.all (·.oneCell')) = true)
    (H : SH w0 S w L) (hi : L[i]? = some b) (hk : k + n ≤ b.cs.length)
    (h : ∀ w', SH w0 S w' (L.set i ⟨b.g, b.T, putL b.cs k vs⟩) → OPS P N .plain ops K rest (upd e d (.int .i64 n)) w') : OPS P N .plain ops K (o :: rest) e w := by
  obtain ⟨w', hr, H'⟩ := store_run (P := P) vs w L b k 0 H hi (by omega) h1
  refine OPS.act (v := .int .i64 n) (w' := w') hg hd hN ?_ (h w' H')
  unfold execOp; rw [hop]
  have hl := loadCells_at (P := P) vs hsrc
  rw [hn] at hl
  simp [resolve, invoke, builtin, hx, hy, Builtin.copy_, hU, hs, Builtin.lenOf, Builtin.firstCells, hl, hr, goInt]
/-- as OPS.box, OPS.alloc, OPS.makeSlice, OPS.buildSlice, with what the new world keeps -/
theorem OPS.boxB {d : Nat} {cs : List Value} (hg : o.guard = none) (hd : o.dst = some d) (hN : Nat.blt d N = true) (hop : o.op = .box t x) (hx : (ev e x).cells = cs.toArray) (H : SH w0 S w L)
    (h : ∀ g w', Bel w.heap.size w w' → SH w0 S w' (⟨g, t, cs⟩ :: L) → OPS P N .plain ops K rest (upd e d (.pointer (some ⟨g, 0, none⟩))) w') : OPS P N .plain ops K (o :: rest) e w :=
  OPS.act (v := .pointer (some ⟨w.heap.size, 0, none⟩)) (w' := w.alloc (.cells cs.toArray t)) hg hd hN (by unfold execOp; rw [hop]; simp [Instr.box, newVar, newRow, newObj, Sem.run, hx]) (h _ _ ((Bel.refl _ _).alloc (Nat.le_refl _) _) (H.alloc t cs))
theorem OPS.allocB {d : Nat} {z : Value} {cs : List Value} (hg : o.guard = none) (hd : o.dst = some d) (hN : Nat.blt d N = true) (hop : o.op = .alloc t) (hz : ∀ w, (zeroValue t).run P w = .ok z w) (hx : z.cells = cs.toArray) (H : SH w0 S w L)
    (h : ∀ g w', Bel w.heap.size w w' → SH w0 S w' (⟨g, t, cs⟩ :: L) → OPS P N .plain ops K rest (upd e d (.pointer (some ⟨g, 0, none⟩))) w') : OPS P N .plain ops K (o :: rest) e w :=
  OPS.act (v := .pointer (some ⟨w.heap.size, 0, none⟩)) (w' := w.alloc (.cells cs.toArray t)) hg hd hN (by unfold execOp; rw [hop]; simp [Instr.alloc, hz, newVar, newRow, newObj, Sem.run, hx]) (h _ _ ((Bel.refl _ _).alloc (Nat.le_refl _) _) (H.alloc t cs))
theorem OPS.makeSliceB {d el sz bt m : Nat} {n : Int} {k k' : IntKind} {zs : List Value} (hg : o.guard = none) (hd : o.dst = some d) (hN : Nat.blt d N = true) (hop : o.op = .makeSlice t x y) (hf : SlFact P t el sz bt zs)
    (hx : ev e x = .int k n) (hy : ev e y = .int k' n) (hn : n = (m : Int)) (hb : bt * m ≤ 140737488355328) (hm : m ≤ 9223372036854775807) (H : SH w0 S w L)
    (h : ∀ g w', Bel w.heap.size w w' → SH w0 S w' (⟨g, el, mkL m zs⟩ :: L) → OPS P N .plain ops K rest (upd e d (.slice (some ⟨g, 0, none⟩) m m)) w') : OPS P N .plain ops K (o :: rest) e w := by
  subst hn
  refine OPS.act (v := .slice (some ⟨w.heap.size, 0, none⟩) m m) (w' := w.alloc (.cells (mkL m zs).toArray el)) hg hd hN ?_ (h _ _ ((Bel.refl _ _).alloc (Nat.le_refl _) _) (H.alloc _ _))
  unfold execOp; rw [hop]
  simp only [hx, hy, Sem.run_bind, run_makeSlice_own hf m k k' hb hm w, Result.andThen_ok, Sem.run_pure]
theorem OPS.buildSliceB {d el n : Nat} {cs : List Value} {parts : List (Nat × Operand)} (hg : o.guard = none) (hd : o.dst = some d) (hN : Nat.blt d N = true) (hop : o.op = .buildSlice t n parts.toArray)
    (hr : ∀ w, (Instr.buildSlice t n (parts.map fun p => (p.1, ev e p.2)).toArray).run P w = .ok (.slice (some ⟨w.heap.size, 0, none⟩) n n) (w.alloc (.cells cs.toArray el))) (H : SH w0 S w L)
    (h : ∀ g w', Bel w.heap.size w w' → SH w0 S w' (⟨g, el, cs⟩ :: L) → OPS P N .plain ops K rest (upd e d (.slice (some ⟨g, 0, none⟩) n n)) w') : OPS P N .plain ops K (o :: rest) e w := by
  refine OPS.act (v := .slice (some ⟨w.heap.size, 0, none⟩) n n) (w' := w.alloc (.cells cs.toArray el)) hg hd hN ?_ (h _ _ ((Bel.refl _ _).alloc (Nat.le_refl _) _) (H.alloc _ _))
  unfold execOp; rw [hop]
  simp only [List.map_toArray, Sem.run_bind, hr, Result.andThen_ok, Sem.run_pure]
/-- a guarded call in a quiet region, the contract first -/
theorem OPS.gcallq2 {d j dj : Nat} {want b : Bool} {f : FuncId} {args : List Value} {v : Value}
    (hC : b = want → ∀ w', Bel w.heap.size w w' → Calls P f args.toArray w' fun e' w'' => e' = .returned v ∧ Bel w'.heap.size w' w'')
    (hg : o.guard = some (j, want)) (hj : ops[j]?.bind (·.dst) = some dj) (hb : e dj = .bool b) (hd : o.dst = some d) (hN : Nat.blt d N = true) (hE : b = want → EvC P e o.op f args)
    (h : OPS P N .quiet ops K rest (upd e d (gv b want v)) w) : OPS P N .quiet ops K (o :: rest) e w :=
  ⟨fun a h1 h2 h3 => by
    have hn := h.run (a.put (some d) (gv b want v)) (by rw [envOf_put _ h2 hN, h1]) (by rw [size_put]; exact h2) (by rw [defers_put]; exact h3)
    have hy := yielded_of (a := a) hj (h1 ▸ hb)
    simp only at hn ⊢
    unfold wpQuiet
    by_cases hw : b = want
    · subst hw
      have hwt : Region.wanted o (yielded ops a.tmps) = true := by simp [Region.wanted, hg, hy]
      have hgv : gv b b v = v := by simp [gv]
      rw [hgv] at hn
      rw [if_pos hwt]
      refine ⟨v, fun w' hb => ?_, by rw [hd]; exact hn⟩
      unfold Oper.quietAt
      have hr := (hE rfl).run w' o rfl
      rw [← h1, ← eval_eq] at hr
      rw [hr]
      exact ⟨rfl, (hC rfl w' hb).mono fun e' w'' ⟨he, hb2⟩ => ⟨he, hb.trans (hb2.mono hb.size)⟩⟩
    · have hwt : Region.wanted o (yielded ops a.tmps) = false := by simp [Region.wanted, hg, hy, hw]
      have hgv : gv b want v = undef := by simp [gv, hw]
      rw [hgv] at hn
      rw [hwt, hd]; exact hn⟩
/-- a guarded call whose result is not known beforehand -/
theorem OPS.gcallX {α : Type} [Inhabited α] (val : α → Value) (R : α → World → Prop) {d j dj : Nat} {want b : Bool} {f : FuncId} {args : List Value}
    (hC : b = want → Calls P f args.toArray w fun e' w' => ∃ x, e' = .returned (val x) ∧ R x w' ∧ Bel w.heap.size w w') (hg : o.guard = some (j, want)) (hj : ops[j]?.bind (·.dst) = some dj) (hb : e dj = .bool b) (hd : o.dst = some d) (hN : Nat.blt d N = true)
    (hE : b = want → EvC P e o.op f args)
    (h : ∀ x w', (b = want → R x w') → Bel w.heap.size w w' → OPS P N .plain ops K rest (upd e d (gv b want (val x))) w') : OPS P N .plain ops K (o :: rest) e w :=
  ⟨fun a h1 h2 h3 => by
    have hy := yielded_of (a := a) hj (h1 ▸ hb)
    simp only
    unfold wpList
    by_cases hw : b = want
    · subst hw
      have hwt : Region.wanted o (yielded ops a.tmps) = true := by simp [Region.wanted, hg, hy]
      rw [if_pos hwt]
      refine .inl ?_
      unfold Oper.wp
      have hr := (hE rfl).run w o rfl
      rw [← h1, ← eval_eq] at hr
      rw [hr]
      refine (hC rfl).mono fun e' w' ⟨x, he, hR, hb2⟩ => ?_
      subst he
      have hn := (h x w' (fun _ => hR) hb2).run (a.put (some d) (gv b b (val x))) (by rw [envOf_put _ h2 hN, h1]) (by rw [size_put]; exact h2) (by rw [defers_put]; exact h3)
      have hgv : gv b b (val x) = val x := by simp [gv]
      rw [hgv] at hn
      rw [hd]
      exact hn
    · have hwt : Region.wanted o (yielded ops a.tmps) = false := by simp [Region.wanted, hg, hy, hw]
      have hn := (h default w (fun hx => absurd hx hw) (Bel.refl _ _)).run (a.put (some d) (gv b want (val default))) (by rw [envOf_put _ h2 hN, h1]) (by rw [size_put]; exact h2) (by rw [defers_put]; exact h3)
      have hgv : gv b want (val default) = undef := by simp [gv, hw]
      rw [hgv] at hn
      rw [hwt, hd]; exact hn⟩
end
section
variable {P : Program} {e : Env} {w : World} {ty t : TypeId} {x y : Operand}
theorem Ev.pickT {c : Operand} {b : Bool} {v : Value} (hc : ev e c = .bool b) (hb : b = true) (hx : ev e x = v) : Ev P e w ty (.pick c x y) v := by
  have := Ev.pick (P := P) (w := w) (ty := ty) (x := x) (y := y) hc
  rw [if_pos hb, hx] at this; exact this
theorem Ev.pickF {c : Operand} {b : Bool} {v : Value} (hc : ev e c = .bool b) (hb : b = false) (hy : ev e y = v) : Ev P e w ty (.pick c x y) v := by
  have := Ev.pick (P := P) (w := w) (ty := ty) (x := x) (y := y) hc
  rw [if_neg (by simp [hb]), hy] at this; exact this
theorem equalB {a b : Bool} (hU : ∀ w, (underlying t).run P w = .ok .bool w) (w : World) : (Op.equal t (.bool a) (.bool b)).run P w = .ok (a == b) w := by
  unfold Op.equal
  rw [show Op.maxDepth = 9999 + 1 from rfl, Op.equalIn]
  simp [hU]
theorem Ev.neqB {t' : TypeId} {a b : Bool} (hU : ∀ w, (underlying t).run P w = .ok .bool w) (hx : ev e x = .bool a) (hy : ev e y = .bool b) : Ev P e w ty (.binOp .neq t x y t') (.bool (a != b)) :=
  ⟨fun w' _ o ho _ => by unfold execOp; rw [ho]; simp [hx, hy, eqGuard, binOp, equalB hU, bne]⟩
theorem Ev.eqlB {t' : TypeId} {a b : Bool} (hU : ∀ w, (underlying t).run P w = .ok .bool w) (hx : ev e x = .bool a) (hy : ev e y = .bool b) : Ev P e w ty (.binOp .eql t x y t') (.bool (a == b)) :=
  ⟨fun w' _ o ho _ => by unfold execOp; rw [ho]; simp [hx, hy, eqGuard, binOp, equalB hU]⟩
/-- two structs of one type, compared -/
theorem Ev.eqlA {t' : TypeId} {vs us : Array Value} {q : Bool} (hg : P.eqGuardType P.depth t = false) (hr : ∀ w, (Op.equal t (.agg vs) (.agg us)).run P w = .ok q w) (hx : ev e x = .agg vs) (hy : ev e y = .agg us) : Ev P e w ty (.binOp .eql t x y t') (.bool q) :=
  ⟨fun w' _ o ho _ => by
    have hp : (program : Sem Program).run P w' = .ok P w' := rfl
    unfold execOp; rw [ho]; simp [hx, hy, eqGuard, binOp, hr, hp, hg]⟩
end
theorem zero_of {P : Program} {t : TypeId} {z : Value} (h : (P.info? t).map (·.zero) = some (some z)) : ∀ w, (zeroValue t).run P w = .ok z w := by
  intro w
  cases hi : P.info? t with
  | none => simp [hi] at h
  | some i =>
    simp [hi] at h
    have ht : (typeInfo t).run P w = .ok i w := by unfold typeInfo program; simp only [Sem.run_bind, Sem.run, Result.andThen_ok, hi, Sem.run_pure]
    unfold zeroValue; simp only [Sem.run_bind, ht, Result.andThen_ok, h, Sem.run_pure]
/-- a cell of a block of ints -/
theorem intCell {w0 w : World} {S : List Nat} {L : List Blk} (H : SH w0 S w L) (i : Nat) {g : Nat} {T : TypeId} {ms : List Int} (hi : L[i]? = some ⟨g, T, ms.map fun n => Value.int .i64 n⟩) (k : Nat) (hk : k < ms.length) : w.cell? ⟨g, k, none⟩ = some (.int .i64 (ms.getD k 0)) :=
  H.ldL i hi k (by simp [hk])
/-- a list that is being filled: the first j elements stand, the others are z -/
def fillL {α : Type} (l : List α) (z : α) (j : Nat) : List α := l.take j ++ List.replicate (l.length - j) z
theorem fillL_length {α : Type} (l : List α) (z : α) (j : Nat) (h : j ≤ l.length) : (fillL l z j).length = l.length := by simp [fillL]; omega
theorem fillL_zero {α : Type} (l : List α) (z : α) : fillL l z 0 = List.replicate l.length z := by simp [fillL]
theorem fillL_all {α : Type} (l : List α) (z : α) : fillL l z l.length = l := by simp [fillL]
theorem fillL_set {α : Type} (l : List α) (z : α) (j : Nat) (h : j < l.length) : (fillL l z j).set j (l[j]) = fillL l z (j + 1) := by
  have e : l.length - j = (l.length - (j + 1)) + 1 := by omega
  unfold fillL
  have e2 : j - (l.take j).length = 0 := by simp; omega
  rw [List.set_append_right _ _ (by simp; omega), e, List.replicate_succ, e2, List.set_cons_zero, ← List.take_append_getElem h, List.append_assoc]
  rfl
/-- how many are not set yet -/
def openN (l : List Bool) : Nat := (l.filter (fun b => !b)).length
theorem openN_set : ∀ (l : List Bool) (k : Nat), k < l.length → l.getD k false = false → openN (l.set k true) < openN l
  | [], _, h, _ => by simp at h
  | b :: l, 0, _, hb => by
    simp at hb; subst hb
    simp [openN]
  | b :: l, k + 1, h, hb => by
    have := openN_set l k (by simpa using h) (by simpa using hb)
    cases b <;> simpa [openN] using this
end Go.WD

/-
  Lists that are being written, element by element.
-/
set_option linter.all false
namespace Go.WD
open Go.RowKit
theorem Ev.neqA {P : Program} {e : Env} {w : World} {ty t : TypeId} {x y : Operand} {t' : TypeId} {vs us : Array Value} {q : Bool} (hg : P.eqGuardType P.depth t = false) (hr : ∀ w, (Op.equal t (.agg vs) (.agg us)).run P w = .ok q w) (hx : ev e x = .agg vs) (hy : ev e y = .agg us) : Ev P e w ty (.binOp .neq t x y t') (.bool (!q)) :=
  ⟨fun w' _ o ho _ => by
    have hp : (program : Sem Program).run P w' = .ok P w' := rfl
    unfold execOp; rw [ho]; simp [hx, hy, eqGuard, binOp, hr, hp, hg]⟩
/-- the first j elements of l, the others of m -/
def mixL {α : Type} (l m : List α) (j : Nat) : List α := l.take j ++ m.drop j
theorem mixL_length {α : Type} {l m : List α} {j : Nat} (h : l.length = m.length) (hj : j ≤ l.length) : (mixL l m j).length = l.length := by simp [mixL]; omega
theorem mixL_zero {α : Type} (l m : List α) : mixL l m 0 = m := by simp [mixL]
theorem mixL_all {α : Type} {l m : List α} (h : l.length = m.length) : mixL l m l.length = l := by
  unfold mixL
  rw [List.take_length, List.drop_eq_nil_of_le (by omega), List.append_nil]
theorem mixL_get {α : Type} {l m : List α} {j : Nat} (h : l.length = m.length) (hj : j < l.length) : (mixL l m j)[j]? = m[j]? := by
  have e1 : (l.take j).length = j := by simp; omega
  unfold mixL
  rw [List.getElem?_append_right (by omega), e1]
  simp
theorem mixL_set {α : Type} {l m : List α} {j : Nat} (h : l.length = m.length) (hj : j < l.length) : (mixL l m j).set j (l[j]) = mixL l m (j + 1) := by
  have e1 : (l.take j).length = j := by simp; omega
  unfold mixL
  rw [List.set_append_right _ _ (by omega), e1, Nat.sub_self, List.drop_eq_getElem_cons (show j < m.length by omega), List.set_cons_zero, ← List.take_append_getElem hj, List.append_assoc]
  rfl
theorem OnesAt.atK {α : Type} {enc : α → Value} {w : World} {b o : Nat} {l : List α} (h : OnesAt enc w (some ⟨b, o, none⟩) l) {k : Nat} (hk : k < l.length) : w.cell? ⟨b, o + k, none⟩ = some (enc (l[k]'hk)) := by
  obtain ⟨b', o', h1, h2⟩ := h k hk
  cases h1; exact h2
theorem OnesAt.cells {α : Type} {enc : α → Value} {w : World} {b : Nat} : ∀ {o : Nat} {l : List α}, OnesAt enc w (some ⟨b, o, none⟩) l → cellsAt w b o (l.map enc)
  | _, [], _ => trivial
  | o, a :: l, h => ⟨h.atK (k := 0) (Nat.zero_lt_succ _), OnesAt.cells fun k hk => ⟨b, o + 1, rfl, by
      have := h.atK (k := k + 1) (by simpa using hk)
      rw [show o + 1 + k = o + (k + 1) by omega]; exact this⟩⟩
theorem Ev.convI {P : Program} {e : Env} {w : World} {ty s d : TypeId} {x : Operand} {k' : IntKind} {a : Int} (hs : ∀ w, (underlying s).run P w = .ok (.int k') w) (hd : ∀ w, (underlying d).run P w = .ok (.int .i64) w) (hx : ev e x = .int k' a) (h : fits a) : Ev P e w ty (.convert s d x) (.int .i64 a) := by
  have := Ev.conv (P := P) (w := w) (ty := ty) hs hd hx
  rwa [wrap_fits h] at this
/-- a store into a list that begins a block -/
theorem putL_pre {α : Type} {enc : α → Value} (l : List α) (post : List Value) (k : Nat) (x : α) (hk : k < l.length) : putL (l.map enc ++ post) k [enc x] = (l.set k x).map enc ++ post := by
  simp only [putL]
  rw [List.set_append_left _ _ (by simpa using hk), List.map_set]
theorem preCell {α : Type} {enc : α → Value} {w0 w : World} {S : List Nat} {L : List Blk} (H : SH w0 S w L) (i : Nat) {g : Nat} {T : TypeId} {l : List α} {post : List Value} (hi : L[i]? = some ⟨g, T, l.map enc ++ post⟩) {k : Nat} (hk : k < l.length) : w.cell? ⟨g, k, none⟩ = some (enc l[k]) :=
  H.ldL i hi k (by
    show (l.map enc ++ post)[k]? = _
    rw [List.getElem?_append_left (by simpa using hk), List.getElem?_map, List.getElem?_eq_getElem hk]; rfl)
end Go.WD

/-
  Guards within guards.
-/
set_option linter.all false
namespace Go.WD
open Go.RowKit
/-- the guard's slot says 'want' just where q -/
structure GB (v : Value) (want q : Bool) : Prop where
  out : v = .bool want ↔ q = true
theorem GB.b {v : Value} {b want : Bool} (h : v = .bool b) : GB v want (b == want) := ⟨by subst h; cases b <;> cases want <;> simp⟩
theorem GB.g {v : Value} {b1 w1 b2 want : Bool} (h : v = gv b1 w1 (.bool b2)) : GB v want ((b1 == w1) && (b2 == want)) := ⟨by
  subst h
  by_cases h1 : b1 = w1
  · subst h1; cases b2 <;> cases want <;> simp [gv]
  · simp [gv, h1, undef]⟩
section
variable {P : Program} {N : Nat} {m : Md} {ops : Array Oper} {K : Env → World → Prop} {e : Env} {w : World} {rest : List Oper} {o : Oper}
theorem yielded_gb {a : Act} {j dj : Nat} {want q : Bool} (hj : ops[j]?.bind (·.dst) = some dj) (h : GB (envOf a dj) want q) : (yielded ops a.tmps j == some want) = q := by
  have h2 := h.out
  unfold yielded
  simp only [envOf, undef] at h2
  rw [hj]
  simp only [Option.bind_some]
  cases ht : a.tmps[dj]? with
  | none =>
    simp only [Array.getD_eq_getD_getElem?, ht, Option.getD_none] at h2
    cases q with
    | true => simp at h2
    | false => rfl
  | some u =>
    simp only [Array.getD_eq_getD_getElem?, ht, Option.getD_some] at h2
    cases u with
    | bool x =>
      cases q with
      | true =>
        have := h2.2 rfl
        cases this; simp
      | false =>
        have hne : x ≠ want := fun e => by subst e; have := h2.1 rfl; cases this
        simp [hne]
    | _ =>
      cases q with
      | true => have := h2.2 rfl; cases this
      | false => rfl
theorem OPS.gvalN {d j dj : Nat} {want q : Bool} {v : Value} (hg : o.guard = some (j, want)) (hj : ops[j]?.bind (·.dst) = some dj) (hb : GB (e dj) want q) (hd : o.dst = some d) (hN : Nat.blt d N = true)
    (hE : q = true → Ev P e w o.type o.op v) (h : OPS P N m ops K rest (upd e d (gv q true v)) w) : OPS P N m ops K (o :: rest) e w :=
  ⟨fun a h1 h2 h3 => by
    have hn := h.run (a.put (some d) (gv q true v)) (by rw [envOf_put _ h2 hN, h1]) (by rw [size_put]; exact h2) (by rw [defers_put]; exact h3)
    have hy := yielded_gb (a := a) (want := want) (q := q) hj (h1 ▸ hb)
    have hwt : Region.wanted o (yielded ops a.tmps) = q := by simp only [Region.wanted, hg]; exact hy
    cases q with
    | true =>
      have hr := fun w' hb => (hE rfl).run w' hb o rfl rfl
      rw [← h1, ← eval_eq] at hr
      have hgv : gv true true v = v := by simp [gv]
      rw [hgv] at hn
      cases m with
      | plain =>
        simp only at hn ⊢
        unfold wpList
        rw [if_pos hwt]
        refine .inl ?_
        unfold Oper.wp
        rw [hr w (Bel.refl _ _)]
        simp only [Oper.upon, hd]
        exact hn
      | still =>
        simp only at hn ⊢
        unfold wpStill
        rw [if_pos hwt]
        unfold Oper.still
        rw [hr w (Bel.refl _ _)]
        simp only [Oper.stillUpon, hd]
        exact ⟨trivial, hn⟩
      | quiet =>
        simp only at hn ⊢
        unfold wpQuiet
        rw [if_pos hwt]
        refine ⟨v, fun w' hb => ?_, by rw [hd]; exact hn⟩
        unfold Oper.quietAt
        rw [hr w' hb]
        exact ⟨rfl, rfl⟩
    | false =>
      have hgv : gv false true v = undef := by simp [gv]
      rw [hgv] at hn
      cases m with
      | plain => simp only at hn ⊢; unfold wpList; rw [hwt, hd]; exact hn
      | still => simp only at hn ⊢; unfold wpStill; rw [hwt, hd]; exact hn
      | quiet => simp only at hn ⊢; unfold wpQuiet; rw [hwt, hd]; exact hn⟩
/-- a guarded call whose result is not known beforehand -/
theorem OPS.gcallN {α : Type} [Inhabited α] (val : α → Value) (R : α → World → Prop) {d j dj : Nat} {want q : Bool} {f : FuncId} {args : List Value}
    (hC : q = true → Calls P f args.toArray w fun e' w' => ∃ x, e' = .returned (val x) ∧ R x w' ∧ Bel w.heap.size w w') (hg : o.guard = some (j, want)) (hj : ops[j]?.bind (·.dst) = some dj) (hb : GB (e dj) want q) (hd : o.dst = some d) (hN : Nat.blt d N = true)
    (hE : q = true → EvC P e o.op f args)
    (h : ∀ x w', (q = true → R x w') → Bel w.heap.size w w' → OPS P N .plain ops K rest (upd e d (gv q true (val x))) w') : OPS P N .plain ops K (o :: rest) e w :=
  ⟨fun a h1 h2 h3 => by
    have hy := yielded_gb (a := a) (want := want) (q := q) hj (h1 ▸ hb)
    have hwt : Region.wanted o (yielded ops a.tmps) = q := by simp only [Region.wanted, hg]; exact hy
    simp only
    unfold wpList
    cases q with
    | true =>
      rw [if_pos hwt]
      refine .inl ?_
      unfold Oper.wp
      have hr := (hE rfl).run w o rfl
      rw [← h1, ← eval_eq] at hr
      rw [hr]
      refine (hC rfl).mono fun e' w' ⟨x, he, hR, hb2⟩ => ?_
      subst he
      have hn := (h x w' (fun _ => hR) hb2).run (a.put (some d) (gv true true (val x))) (by rw [envOf_put _ h2 hN, h1]) (by rw [size_put]; exact h2) (by rw [defers_put]; exact h3)
      have hgv : gv true true (val x) = val x := by simp [gv]
      rw [hgv] at hn
      rw [hd]
      exact hn
    | false =>
      have hn := (h default w (fun hx => by cases hx) (Bel.refl _ _)).run (a.put (some d) (gv false true (val default))) (by rw [envOf_put _ h2 hN, h1]) (by rw [size_put]; exact h2) (by rw [defers_put]; exact h3)
      have hgv : gv false true (val default) = undef := by simp [gv]
      rw [hgv] at hn
      rw [hwt, hd]; exact hn⟩
end
section
variable {P : Program} {e : Env} {w : World} {ty : TypeId} {x y c : Operand}
theorem Ev.pickAnd2 {q b u : Bool} (hg : q = true) (hc : ev e c = .bool b) (hx : ev e x = gv (q && (b == true)) true (.bool u)) (hy : ev e y = .bool false) : Ev P e w ty (.pick c x y) (.bool (b && u)) := by
  have := Ev.pick (P := P) (w := w) (ty := ty) (x := x) (y := y) hc
  cases b <;> simpa [hx, hy, gv, hg] using this
theorem Ev.pickOr2 {q b u : Bool} (hg : q = true) (hc : ev e c = .bool b) (hx : ev e x = .bool true) (hy : ev e y = gv (q && (b == false)) true (.bool u)) : Ev P e w ty (.pick c x y) (.bool (b || u)) := by
  have := Ev.pick (P := P) (w := w) (ty := ty) (x := x) (y := y) hc
  cases b <;> simpa [hx, hy, gv, hg] using this
end
section
variable {P : Program} {N : Nat} {Kn : Env → World → Prop} {Kx : Nat → Env → World → Prop} {Kr : Env → World → Prop} {e : Env} {w : World}
/-- what holds behind a piece of code, however it went -/
theorem WP.cut {c : Code} (M : List Nat) (I : Env → World → Prop) (h : WP P N c (fun e' w' => Agree M e' e ∧ I e' w') Kx Kr e w) (hk : ∀ u w', I u w' → Kn (WD.mix M u e) w') : WP P N c Kn Kx Kr e w :=
  WP.mono h (fun e' w' hh => by rw [hh.1.eq]; exact hk e' w' hh.2) (fun _ _ _ h => h) (fun _ _ h => h)
end
theorem beqT {b want : Bool} (h : b = want) : (b == want) = true := by simp [h]
end Go.WD

/-
  Lists that are being written, element by element.
-/
set_option linter.all false
namespace Go.W
open Go.RowKit
theorem Ev.neqA {P : Program} {e : Env} {w : World} {ty t : TypeId} {x y : Operand} {t' : TypeId} {vs us : Array Value} {q : Bool} (hg : P.eqGuardType P.depth t = false) (hr : ∀ w, (Op.equal t (.agg vs) (.agg us)).run P w = .ok q w) (hx : ev e x = .agg vs) (hy : ev e y = .agg us) : Ev P e w ty (.binOp .neq t x y t') (.bool (!q)) :=
  ⟨fun w' _ o ho _ => by
    have hp : (program : Sem Program).run P w' = .ok P w' := rfl
    unfold execOp; rw [ho]; simp [hx, hy, eqGuard, binOp, hr, hp, hg]⟩
/-- the first j elements of l, the others of m -/
def mixL {α : Type} (l m : List α) (j : Nat) : List α := l.take j ++ m.drop j
theorem mixL_length {α : Type} {l m : List α} {j : Nat} (h : l.length = m.length) (hj : j ≤ l.length) : (mixL l m j).length = l.length := by simp [mixL]; omega
theorem mixL_zero {α : Type} (l m : List α) : mixL l m 0 = m := by simp [mixL]
theorem mixL_all {α : Type} {l m : List α} (h : l.length = m.length) : mixL l m l.length = l := by
  unfold mixL
  rw [List.take_length, List.drop_eq_nil_of_le (by omega), List.append_nil]
theorem mixL_get {α : Type} {l m : List α} {j : Nat} (h : l.length = m.length) (hj : j < l.length) : (mixL l m j)[j]? = m[j]? := by
  have e1 : (l.take j).length = j := by simp; omega
  unfold mixL
  rw [List.getElem?_append_right (by omega), e1]
  simp
theorem mixL_set {α : Type} {l m : List α} {j : Nat} (h : l.length = m.length) (hj : j < l.length) : (mixL l m j).set j (l[j]) = mixL l m (j + 1) := by
  have e1 : (l.take j).length = j := by simp; omega
  unfold mixL
  rw [List.set_append_right _ _ (by omega), e1, Nat.sub_self, List.drop_eq_getElem_cons (show j < m.length by omega), List.set_cons_zero, ← List.take_append_getElem hj, List.append_assoc]
  rfl
theorem OnesAt.atK {α : Type} {enc : α → Value} {w : World} {b o : Nat} {l : List α} (h : OnesAt enc w (some ⟨b, o, none⟩) l) {k : Nat} (hk : k < l.length) : w.cell? ⟨b, o + k, none⟩ = some (enc (l[k]'hk)) := by
  obtain ⟨b', o', h1, h2⟩ := h k hk
  cases h1; exact h2
theorem OnesAt.cells {α : Type} {enc : α → Value} {w : World} {b : Nat} : ∀ {o : Nat} {l : List α}, OnesAt enc w (some ⟨b, o, none⟩) l → cellsAt w b o (l.map enc)
  | _, [], _ => trivial
  | o, a :: l, h => ⟨h.atK (k := 0) (Nat.zero_lt_succ _), OnesAt.cells fun k hk => ⟨b, o + 1, rfl, by
      have := h.atK (k := k + 1) (by simpa using hk)
      rw [show o + 1 + k = o + (k + 1) by omega]; exact this⟩⟩
theorem Ev.convI {P : Program} {e : Env} {w : World} {ty s d : TypeId} {x : Operand} {k' : IntKind} {a : Int} (hs : ∀ w, (underlying s).run P w = .ok (.int k') w) (hd : ∀ w, (underlying d).run P w = .ok (.int .i64) w) (hx : ev e x = .int k' a) (h : fits a) : Ev P e w ty (.convert s d x) (.int .i64 a) := by
  have := Ev.conv (P := P) (w := w) (ty := ty) hs hd hx
  rwa [wrap_fits h] at this
/-- a store into a list that begins a block -/
theorem putL_pre {α : Type} {enc : α → Value} (l : List α) (post : List Value) (k : Nat) (x : α) (hk : k < l.length) : putL (l.map enc ++ post) k [enc x] = (l.set k x).map enc ++ post := by
  simp only [putL]
  rw [List.set_append_left _ _ (by simpa using hk), List.map_set]
theorem preCell {α : Type} {enc : α → Value} {w0 w : World} {S : List Nat} {L : List Blk} (H : SH w0 S w L) (i : Nat) {g : Nat} {T : TypeId} {l : List α} {post : List Value} (hi : L[i]? = some ⟨g, T, l.map enc ++ post⟩) {k : Nat} (hk : k < l.length) : w.cell? ⟨g, k, none⟩ = some (enc l[k]) :=
  H.ldL i hi k (by
    show (l.map enc ++ post)[k]? = _
    rw [List.getElem?_append_left (by simpa using hk), List.getElem?_map, List.getElem?_eq_getElem hk]; rfl)
end Go.W

/-
  Maps that the call makes itself: what a block that is a map holds, as a list of pairs with keys that differ.
-/
set_option linter.all false
namespace Go.W
open Go.RowKit
open Go.MapKept (Stamped stamped_iff stamped_empty stamped_push stamped_modify stamped_erase)
open Go.ChangeMaps (setBlock modify_eq_set)
open Go.Maps (Keyed)

/-- block g of w is a map (keys of type k) with just the pairs m -/
structure MapAt (P : Program) (k : TypeId) (w : World) (g : Nat) (m : List (Value × Value)) : Prop where
  ex : ∃ (es : Array MapEntry) (clock : Nat), w.heap[g]? = some (.map es clock) ∧ Stamped es clock ∧ (∀ x ∈ es.toList, ∃ l, keyOf P k x.key = some l) ∧ es.toList.map (fun x => (x.key, x.val)) = m
section
variable {P : Program} {k t el : TypeId} {w w' w0 : World} {S : List Nat} {L : List Blk} {g : Nat} {m : List (Value × Value)}
theorem MapAt.lt (h : MapAt P k w g m) : g < w.heap.size := by
  obtain ⟨es, c, hb, _⟩ := h.ex
  exact (Array.getElem?_eq_some_iff.1 hb).1
theorem MapAt.keep (h : MapAt P k w g m) (he : w'.heap[g]? = w.heap[g]?) : MapAt P k w' g m := by
  obtain ⟨es, c, hb, h2⟩ := h.ex
  exact ⟨es, c, he.trans hb, h2⟩
theorem MapAt.below (h : MapAt P k w g m) (hb : Below w.heap.size w w') : MapAt P k w' g m := h.keep (hb.block g h.lt)
theorem MapAt.sh (h : MapAt P k w0 g m) (H : SH w0 S w L) (hS : g ∉ S) : MapAt P k w g m := h.keep (H.low g h.lt hS)
theorem MapAt.ne (h : MapAt P k w g m) (H : SH w0 S w L) {b : Blk} (hb : b ∈ L) : g ≠ b.g := by
  rintro rfl
  obtain ⟨es, c, h1, _⟩ := h.ex
  rw [H.own b hb] at h1; cases h1
theorem MapAt.notMem (h : MapAt P k w g m) (H : SH w0 S w L) : g ∉ L.map (·.g) := fun hm => by
  obtain ⟨b, hb, he⟩ := List.mem_map.1 hm
  exact h.ne H hb he.symm
theorem MapAt.setCell (h : MapAt P k w g m) (H : SH w0 S w L) {b : Blk} (hb : b ∈ L) (j : Nat) (v : Value) : MapAt P k (w.setCell ⟨b.g, j, none⟩ v) g m :=
  h.keep (Below.heap_setCell _ _ _ g (h.ne H hb))
theorem MapAt.alloc (h : MapAt P k w g m) (o : Obj) : MapAt P k (w.alloc o) g m := h.keep (Below.heap_alloc w _ g h.lt)
theorem MapAt.made : MapAt P k (w.alloc (.map #[] 0)) w.heap.size [] := ⟨#[], 0, by show (w.heap.push _)[w.heap.size]? = _; simp, stamped_empty 0, by simp, rfl⟩
theorem MapAt.nodup (h : MapAt P k w g m) : m.Pairwise fun p q => p.1 ≠ q.1 := by
  obtain ⟨es, c, _, h2, _, rfl⟩ := h.ex
  rw [List.pairwise_map]
  exact ((stamped_iff es c).1 h2).2.2
theorem MapAt.uniq (h : MapAt P k w g m) {a x y : Value} (hx : (a, x) ∈ m) (hy : (a, y) ∈ m) : x = y := by
  have hn := h.nodup
  clear h
  induction m with
  | nil => cases hx
  | cons p m ih =>
    rw [List.pairwise_cons] at hn
    rcases List.mem_cons.1 hx with rfl | hx'
    · rcases List.mem_cons.1 hy with h | hy'
      · cases h; rfl
      · exact absurd rfl (hn.1 (a, y) hy')
    · rcases List.mem_cons.1 hy with rfl | hy'
      · exact absurd rfl (hn.1 (a, x) hx')
      · exact ih hx' hy' hn.2
theorem SH.newMap (H : SH w0 S w L) : SH w0 S (w.alloc (.map #[] 0)) L where
  os := H.os
  tape := H.tape
  output := H.output
  size := by
    show w0.heap.size ≤ (w.heap.push _).size
    rw [Array.size_push]; have := H.size; omega
  low j hj hS := (Below.heap_alloc w _ j (Nat.lt_of_lt_of_le hj H.size)).trans (H.low j hj hS)
  own b hm := (Below.heap_alloc w _ b.g (H.lt hm)).trans (H.own b hm)
  may := H.may
  nodup := H.nodup
theorem heap_setB (w : World) (g : Nat) (o : Obj) {j : Nat} (h : j ≠ g) : (setBlock w g o).heap[j]? = w.heap[j]? := by
  unfold setBlock
  exact Array.getElem?_setIfInBounds_ne (Ne.symm h)
theorem SH.setB (H : SH w0 S w L) (o : Obj) (hg : g ∉ L.map (·.g)) (hm : g ∈ S ∨ w0.heap.size ≤ g) : SH w0 S (setBlock w g o) L where
  os := H.os
  tape := H.tape
  output := H.output
  size := by simpa [setBlock] using H.size
  low j hj hS := by
    rw [heap_setB w g o (fun he => by subst he; rcases hm with h | h; exact hS h; omega)]
    exact H.low j hj hS
  own b hb := by
    rw [heap_setB w g o (fun he => hg (he ▸ List.mem_map_of_mem hb))]
    exact H.own b hb
  may := H.may
  nodup := H.nodup
theorem SH.weak {S' : List Nat} (H : SH w0 S w L) (h : ∀ g ∈ S, g ∈ S') : SH w0 S' w L :=
  ⟨H.os, H.tape, H.output, H.size, fun k hk hS => H.low k hk fun hm => hS (h k hm), H.own, fun b hb => (H.may b hb).imp id (h _), H.nodup⟩
/-- a stretch with a base of its own (in which blocks S of the base may change), seen from the former base -/
theorem SH.back {wB : World} {S0 : List Nat} {L0 : List Blk} (H0 : SH w0 S0 wB L0) (H : SH wB S w L) (hS : ∀ g ∈ S, (w0.heap.size ≤ g ∨ g ∈ S0) ∧ g ∉ L0.map (·.g)) : SH w0 S0 w (L ++ L0) where
  os := H.os.trans H0.os
  tape := H.tape.trans H0.tape
  output := H.output.trans H0.output
  size := Nat.le_trans H0.size H.size
  low j hj hn := by
    rw [H.low j (Nat.lt_of_lt_of_le hj H0.size) fun hm => ?_]
    · exact H0.low j hj hn
    · rcases (hS j hm).1 with h | h
      · omega
      · exact hn h
  own b hb := by
    rcases List.mem_append.1 hb with hb | hb
    · exact H.own b hb
    · rw [H.low b.g (H0.lt hb) fun hm => (hS b.g hm).2 (List.mem_map_of_mem hb)]
      exact H0.own b hb
  may b hb := by
    rcases List.mem_append.1 hb with hb | hb
    · rcases H.may b hb with h | h
      · exact .inl (Nat.le_trans H0.size h)
      · exact (hS _ h).1
    · exact H0.may b hb
  nodup := by
    rw [List.map_append, List.nodup_append]
    refine ⟨H.nodup, H0.nodup, fun x hx y hy he => ?_⟩
    subst he
    obtain ⟨b, hb, rfl⟩ := List.mem_map.1 hx
    rcases H.may b hb with h | h
    · obtain ⟨c, hc, he⟩ := List.mem_map.1 hy
      have := H0.lt hc; omega
    · exact (hS _ h).2 hy
/-- 'm[key]' (c: with 'ok') -/
theorem MapAt.look (h : MapAt P k w g m) (K : Keyed P k) (ht : P.underlying t = some (.map k el)) {z : Value} (hz : (zeroValue el).run P w = .ok z w) {key : Value} {kl : Lit} (hkey : keyOf P k key = some kl) (c : Bool) :
    ((∀ p ∈ m, p.1 ≠ key) ∧ (Instr.lookup t (.map (some g)) key c).run P w = .ok (if c then .tuple #[z, .bool false] else z) w) ∨
    ∃ v, (key, v) ∈ m ∧ (Instr.lookup t (.map (some g)) key c).run P w = .ok (if c then .tuple #[v, .bool true] else v) w := by
  obtain ⟨es, cl, hb, h2, h3, rfl⟩ := h.ex
  rcases K.find w hkey es.toList h3 with ⟨h4, h5⟩ | ⟨j, e0, h4, h5, h6⟩
  · refine .inl ⟨fun p hp => ?_, by simp [Instr.lookup, run_underlying ht, MapKept.run_getObj_map hb, K.check w _ hkey, h4, hz, Result.andThen]⟩
    obtain ⟨x, hx, rfl⟩ := List.mem_map.1 hp
    exact h5 x hx
  · refine .inr ⟨e0.val, ?_, by simp [Instr.lookup, run_underlying ht, MapKept.run_getObj_map hb, K.check w _ hkey, h4, Result.andThen]⟩
    rw [← h6]
    exact List.mem_map.2 ⟨e0, List.mem_of_getElem? h5, rfl⟩
/-- 'm[key] = val' -/
theorem MapAt.put (h : MapAt P k w g m) (K : Keyed P k) (ht : P.underlying t = some (.map k el)) {key val : Value} {kl : Lit} (hkey : keyOf P k key = some kl) :
    ∃ o m', (Instr.mapUpdate t (.map (some g)) key val).run P w = .ok () (setBlock w g o) ∧ MapAt P k (setBlock w g o) g m' ∧ (∀ p, p ∈ m' ↔ p = (key, val) ∨ (p ∈ m ∧ p.1 ≠ key)) ∧
      ((∀ p ∈ m, p.1 ≠ key) → m' = m ++ [(key, val)]) := by
  obtain ⟨es, cl, hb, h2, h3, rfl⟩ := h.ex
  have hlt : g < w.heap.size := h.lt
  have hset : ∀ o, (setBlock w g o).heap[g]? = some o := fun o => by simp [setBlock, hlt]
  rcases K.find w hkey es.toList h3 with ⟨h4, h5⟩ | ⟨j, e0, h4, h5, h6⟩
  · refine ⟨.map (es.push ⟨key, val, cl⟩) (cl + 1), (es.toList.map fun x => (x.key, x.val)) ++ [(key, val)], ?_, ⟨_, _, hset _, stamped_push h2 h5, ?_, by simp⟩, fun p => ?_, fun _ => rfl⟩
    · simp [Instr.mapUpdate, run_underlying ht, MapKept.run_getObj_map hb, K.check w false hkey, h4, MapKept.run_setObj_map _ hb, Result.andThen, setBlock]
    · intro x hx
      simp only [Array.toList_push, List.mem_append, List.mem_singleton] at hx
      rcases hx with hx | rfl
      · exact h3 x hx
      · exact ⟨_, hkey⟩
    · rw [List.mem_append, List.mem_singleton]
      constructor
      · rintro (h | h)
        · obtain ⟨x, hx, rfl⟩ := List.mem_map.1 h
          exact .inr ⟨h, h5 x hx⟩
        · exact .inl h
      · rintro (h | h)
        · exact .inr h
        · exact .inl h.1
  · have hj : es[j]? = some e0 := by simpa using h5
    have hjl : j < es.toList.length := (List.getElem?_eq_some_iff.1 h5).1
    have hkeyf : ∀ e', es[j]? = some e' → ({ e' with key := key, val := val } : MapEntry).key = e'.key := fun e' he' => by rw [hj] at he'; cases he'; exact h6.symm
    have hlist : (es.modify j (fun e' => { e' with key := key, val := val })).toList = es.toList.set j { e0 with key := key, val := val } := by rw [Array.toList_modify, modify_eq_set _ _ _ _ h5]
    have hn : es.toList.Pairwise (fun x y => x.key ≠ y.key) := ((stamped_iff es cl).1 h2).2.2
    have hother : ∀ i x, es.toList[i]? = some x → i ≠ j → x.key ≠ key := fun i x hi hne he => by
      rw [List.pairwise_iff_getElem] at hn
      obtain ⟨a1, a2⟩ := List.getElem?_eq_some_iff.1 hi
      obtain ⟨b1, b2⟩ := List.getElem?_eq_some_iff.1 h5
      rcases Nat.lt_or_gt_of_ne hne with hlt | hgt
      · exact hn i j a1 b1 hlt (by rw [a2, b2, he, h6])
      · exact hn j i b1 a1 hgt (by rw [a2, b2, he, h6])
    have hmem : ∀ x, x ∈ es.toList.set j { e0 with key := key, val := val } ↔ x = { e0 with key := key, val := val } ∨ (x ∈ es.toList ∧ x.key ≠ key) := by
      intro x
      constructor
      · intro hx
        obtain ⟨i, hi⟩ := List.mem_iff_getElem?.1 hx
        by_cases hne : j = i
        · subst hne
          rw [List.getElem?_set_self hjl] at hi
          exact .inl (Option.some.inj hi).symm
        · rw [List.getElem?_set_ne hne] at hi
          exact .inr ⟨List.mem_of_getElem? hi, hother i x hi (Ne.symm hne)⟩
      · rintro (rfl | ⟨hx, hk⟩)
        · exact List.mem_iff_getElem?.2 ⟨j, by rw [List.getElem?_set_self hjl]⟩
        · obtain ⟨i, hi⟩ := List.mem_iff_getElem?.1 hx
          have hne : j ≠ i := fun he => by subst he; rw [h5] at hi; cases hi; exact hk h6
          exact List.mem_iff_getElem?.2 ⟨i, by rw [List.getElem?_set_ne hne]; exact hi⟩
    refine ⟨.map (es.modify j fun e' => { e' with key := key, val := val }) cl, (es.modify j fun e' => { e' with key := key, val := val }).toList.map fun x => (x.key, x.val), ?_, ⟨_, _, hset _, stamped_modify h2 _ _ (fun _ _ => rfl) (fun e' _ he' => hkeyf e' he'), ?_, rfl⟩, fun p => ?_, fun hno => ?_⟩
    · simp [Instr.mapUpdate, run_underlying ht, MapKept.run_getObj_map hb, K.check w false hkey, h4, hj, h6, K.stays w hkey, MapKept.run_setObj_map _ hb, Result.andThen, setBlock]
    · intro x hx
      rw [hlist, hmem] at hx
      rcases hx with rfl | ⟨hx, _⟩
      · exact ⟨_, hkey⟩
      · exact h3 x hx
    · rw [hlist]
      constructor
      · intro hp
        obtain ⟨x, hx, rfl⟩ := List.mem_map.1 hp
        rcases (hmem x).1 hx with rfl | ⟨hx, hk⟩
        · exact .inl rfl
        · exact .inr ⟨List.mem_map.2 ⟨x, hx, rfl⟩, hk⟩
      · rintro (rfl | ⟨hp, hk⟩)
        · exact List.mem_map.2 ⟨_, (hmem _).2 (.inl rfl), rfl⟩
        · obtain ⟨x, hx, rfl⟩ := List.mem_map.1 hp
          exact List.mem_map.2 ⟨x, (hmem x).2 (.inr ⟨hx, hk⟩), rfl⟩
    · exact absurd h6 (hno (e0.key, e0.val) (List.mem_map.2 ⟨e0, List.mem_of_getElem? h5, rfl⟩))
/-- 'delete(m, key)' -/
theorem MapAt.del {ty : TypeId} (h : MapAt P k w g m) (K : Keyed P k) (ht : P.underlying t = some (.map k el)) {key : Value} {kl : Lit} (hkey : keyOf P k key = some kl) :
    ∃ o m', (Builtin.delete_ #[t, k] ty #[.map (some g), key]).run P w = .ok (.tuple #[]) (setBlock w g o) ∧ MapAt P k (setBlock w g o) g m' ∧ (∀ p, p ∈ m' ↔ p ∈ m ∧ p.1 ≠ key) := by
  obtain ⟨es, cl, hb, h2, h3, rfl⟩ := h.ex
  have hlt : g < w.heap.size := h.lt
  have hset : ∀ o, (setBlock w g o).heap[g]? = some o := fun o => by simp [setBlock, hlt]
  rcases K.find w hkey es.toList h3 with ⟨h4, h5⟩ | ⟨j, e0, h4, h5, h6⟩
  · refine ⟨.map es cl, es.toList.map fun x => (x.key, x.val), ?_, ⟨_, _, hset _, h2, h3, rfl⟩, fun p => ?_⟩
    · simp [Builtin.delete_, run_underlying ht, MapKept.run_getObj_map hb, K.check w _ hkey, h4, MapKept.run_setObj_map _ hb, Result.andThen, setBlock]
    · constructor
      · intro hp
        obtain ⟨x, hx, rfl⟩ := List.mem_map.1 hp
        exact ⟨hp, h5 x hx⟩
      · exact fun hp => hp.1
  · have hjl : j < es.toList.length := (List.getElem?_eq_some_iff.1 h5).1
    have hjs : j < es.size := by simpa using hjl
    have hsub : (es.eraseIdxIfInBounds j).toList = es.toList.eraseIdx j := by
      unfold Array.eraseIdxIfInBounds
      rw [dif_pos hjs]
      simp
    have hn : es.toList.Pairwise (fun x y => x.key ≠ y.key) := ((stamped_iff es cl).1 h2).2.2
    refine ⟨.map (es.eraseIdxIfInBounds j) cl, (es.eraseIdxIfInBounds j).toList.map fun x => (x.key, x.val), ?_, ⟨_, _, hset _, stamped_erase h2 j, ?_, rfl⟩, fun p => ?_⟩
    · simp [Builtin.delete_, run_underlying ht, MapKept.run_getObj_map hb, K.check w _ hkey, h4, MapKept.run_setObj_map _ hb, Result.andThen, setBlock]
    · intro x hx
      rw [hsub] at hx
      exact h3 x ((List.eraseIdx_sublist _ _).subset hx)
    · rw [hsub]
      constructor
      · intro hp
        obtain ⟨x, hx, rfl⟩ := List.mem_map.1 hp
        obtain ⟨i, hne, hi⟩ := List.mem_eraseIdx_iff_getElem?.1 hx
        refine ⟨List.mem_map.2 ⟨x, List.mem_of_getElem? hi, rfl⟩, fun he => ?_⟩
        rw [List.pairwise_iff_getElem] at hn
        obtain ⟨a1, a2⟩ := List.getElem?_eq_some_iff.1 hi
        obtain ⟨b1, b2⟩ := List.getElem?_eq_some_iff.1 h5
        have he : x.key = key := he
        rcases Nat.lt_or_gt_of_ne hne with hlt | hgt
        · exact hn i j a1 b1 hlt (by rw [a2, b2, he, h6])
        · exact hn j i b1 a1 hgt (by rw [a2, b2, he, h6])
      · rintro ⟨hp, hk⟩
        obtain ⟨x, hx, rfl⟩ := List.mem_map.1 hp
        obtain ⟨i, hi⟩ := List.mem_iff_getElem?.1 hx
        refine List.mem_map.2 ⟨x, List.mem_eraseIdx_iff_getElem?.2 ⟨i, fun he => ?_, hi⟩, rfl⟩
        subst he
        rw [h5] at hi
        cases hi
        exact hk h6
end
section
variable {P : Program} {N : Nat} {ops : Array Oper} {K : Env → World → Prop} {e : Env} {w w0 : World} {S : List Nat} {L : List Blk} {rest : List Oper} {o : Oper} {k t el ty : TypeId} {g : Nat} {m : List (Value × Value)} {x ix y : Operand} {key val z : Value} {kl : Lit}
theorem Ev.lookNo {c : Bool} (h : MapAt P k w g m) (hno : ∀ p ∈ m, p.1 ≠ key) (KY : Keyed P k) (ht : P.underlying t = some (.map k el)) (hz : ∀ w, (zeroValue el).run P w = .ok z w) (hkey : keyOf P k key = some kl)
    (hx : ev e x = .map (some g)) (hi : ev e ix = key) : Ev P e w ty (.lookup t x ix c) (if c then .tuple #[z, .bool false] else z) := ⟨fun w' hb o ho _ => by
  unfold execOp; rw [ho]
  simp only [hx, hi]
  rcases (h.below hb).look KY ht (hz w') hkey c with ⟨_, h2⟩ | ⟨v, h1, _⟩
  · simp only [Sem.run_bind, h2, Result.andThen_ok]; rfl
  · exact absurd rfl (hno _ h1)⟩
theorem Ev.lookYes {c : Bool} (h : MapAt P k w g m) (hin : (key, val) ∈ m) (KY : Keyed P k) (ht : P.underlying t = some (.map k el)) (hz : ∀ w, (zeroValue el).run P w = .ok z w) (hkey : keyOf P k key = some kl)
    (hx : ev e x = .map (some g)) (hi : ev e ix = key) : Ev P e w ty (.lookup t x ix c) (if c then .tuple #[val, .bool true] else val) := ⟨fun w' hb o ho _ => by
  unfold execOp; rw [ho]
  simp only [hx, hi]
  rcases (h.below hb).look KY ht (hz w') hkey c with ⟨h1, _⟩ | ⟨v, h1, h2⟩
  · exact absurd rfl (h1 _ hin)
  · cases h.uniq hin h1
    simp only [Sem.run_bind, h2, Result.andThen_ok]; rfl⟩
theorem OPS.mkMap {d : Nat} (k : TypeId) (hop : o.op = .makeMap t none) (hg : o.guard = none) (hd : o.dst = some d) (hN : Nat.blt d N = true) (H : SH w0 S w L)
    (h : ∀ w' gm, w0.heap.size ≤ gm → Below w.heap.size w w' → SH w0 S w' L → MapAt P k w' gm [] → OPS P N .plain ops K rest (upd e d (.map (some gm))) w') : OPS P N .plain ops K (o :: rest) e w :=
  OPS.act (w' := w.alloc (.map #[] 0)) hg hd hN (by unfold execOp; rw [hop]; rfl) (h _ _ H.size ((Below.refl _ _).alloc (Nat.le_refl _) _) H.newMap MapAt.made)
theorem Ev.look0 (h : MapAt P k w g m) (hno : ∀ p ∈ m, p.1 ≠ key) (KY : Keyed P k) (ht : P.underlying t = some (.map k el)) (hz : ∀ w, (zeroValue el).run P w = .ok z w) (hkey : keyOf P k key = some kl)
    (hx : ev e x = .map (some g)) (hi : ev e ix = key) : Ev P e w ty (.lookup t x ix false) z := Ev.lookNo (c := false) h hno KY ht hz hkey hx hi
theorem Ev.look1 (h : MapAt P k w g m) (hin : (key, val) ∈ m) (KY : Keyed P k) (ht : P.underlying t = some (.map k el)) (hz : ∀ w, (zeroValue el).run P w = .ok z w) (hkey : keyOf P k key = some kl)
    (hx : ev e x = .map (some g)) (hi : ev e ix = key) : Ev P e w ty (.lookup t x ix false) val := Ev.lookYes (c := false) h hin KY ht hz hkey hx hi
theorem OPS.putMap (hop : o.op = .mapUpdate t x ix y) (hg : o.guard = none) (hd : o.dst = none) (M : MapAt P k w g m) (KY : Keyed P k) (ht : P.underlying t = some (.map k el)) (hkey : keyOf P k key = some kl)
    (hx : ev e x = .map (some g)) (hi : ev e ix = key) (hy : ev e y = val) (H : SH w0 S w L) (hm : g ∈ S ∨ w0.heap.size ≤ g)
    (h : ∀ w' m', SH w0 S w' L → MapAt P k w' g m' → (∀ j, j ≠ g → w'.heap[j]? = w.heap[j]?) → (∀ p, p ∈ m' ↔ p = (key, val) ∨ (p ∈ m ∧ p.1 ≠ key)) → ((∀ p ∈ m, p.1 ≠ key) → m' = m ++ [(key, val)]) → OPS P N .plain ops K rest e w') :
    OPS P N .plain ops K (o :: rest) e w := by
  obtain ⟨ob, m', h1, h2, h3, h4⟩ := M.put KY ht hkey (val := val)
  refine OPS.actn (w' := setBlock w g ob) hg hd ?_ (h _ m' (H.setB ob (M.notMem H) hm) h2 (fun j hj => heap_setB w g ob hj) h3 h4)
  unfold execOp; rw [hop]; simp only [hx, hi, hy, Sem.run_bind, h1, Result.andThen_ok]; rfl
end
section
variable {P : Program} {N : Nat} {ops : Array Oper} {K : Env → World → Prop} {e : Env} {w w0 : World} {S : List Nat} {L : List Blk} {rest : List Oper} {o : Oper} {k t el ty : TypeId} {g : Nat} {m : List (Value × Value)} {x ix y : Operand} {key val z : Value} {kl : Lit}
/-- an entry of the map was made at the stamp st -/
structure StampAt (w : World) (g st : Nat) : Prop where
  ex : ∃ (es : Array MapEntry) (clock : Nat), w.heap[g]? = some (.map es clock) ∧ ∃ x ∈ es.toList, x.born = st
theorem StampAt.keep {w' : World} {st : Nat} (h : StampAt w g st) (he : w'.heap[g]? = w.heap[g]?) : StampAt w' g st := by
  obtain ⟨es, c, hb, h2⟩ := h.ex
  exact ⟨es, c, he.trans hb, h2⟩
theorem StampAt.lt {st : Nat} (h : StampAt w g st) : g < w.heap.size := by
  obtain ⟨es, c, hb, _⟩ := h.ex
  exact (Array.getElem?_eq_some_iff.1 hb).1
theorem StampAt.below {w' : World} {st : Nat} (h : StampAt w g st) (hb : Below w.heap.size w w') : StampAt w' g st := h.keep (hb.block g h.lt)
theorem StampAt.notMem {st : Nat} (h : StampAt w g st) (H : SH w0 S w L) : g ∉ L.map (·.g) := fun hm => by
  obtain ⟨b, hb, he⟩ := List.mem_map.1 hm
  obtain ⟨es, c, h1, _⟩ := h.ex
  have := H.own b hb
  rw [he, h1] at this; cases this
theorem MapAt.entry (h : MapAt P k w g m) (KY : Keyed P k) (ht : P.underlying t = some (.map k el)) (hz : (zeroValue el).run P w = .ok z w) (hkey : keyOf P k key = some kl) (hno : ∀ p ∈ m, p.1 ≠ key) :
    ∃ (ob : Obj) (st : Nat), (Instr.mapEntry t (.map (some g)) key).run P w = .ok (.tuple #[z, goInt st]) (setBlock w g ob) ∧ MapAt P k (setBlock w g ob) g (m ++ [(key, z)]) ∧ StampAt (setBlock w g ob) g st := by
  obtain ⟨es, cl, hb, h2, h3, rfl⟩ := h.ex
  have hlt : g < w.heap.size := h.lt
  have hset : ∀ o, (setBlock w g o).heap[g]? = some o := fun o => by simp [setBlock, hlt]
  rcases KY.find w hkey es.toList h3 with ⟨h4, h5⟩ | ⟨j, e0, h4, h5, h6⟩
  · refine ⟨.map (es.push ⟨key, z, cl⟩) (cl + 1), cl, ?_, ⟨_, _, hset _, stamped_push h2 h5, ?_, by simp⟩, ⟨_, _, hset _, ⟨key, z, cl⟩, by simp, rfl⟩⟩
    · simp [Instr.mapEntry, run_underlying ht, MapKept.run_getObj_map hb, KY.check w false hkey, h4, hz, MapKept.run_setObj_map _ hb, Result.andThen, setBlock]
    · intro x hx
      simp only [Array.toList_push, List.mem_append, List.mem_singleton] at hx
      rcases hx with hx | rfl
      · exact h3 x hx
      · exact ⟨_, hkey⟩
  · exact absurd h6 (hno (e0.key, e0.val) (List.mem_map.2 ⟨e0, List.mem_of_getElem? h5, rfl⟩))
theorem StampAt.store {st : Nat} (h : StampAt w g st) : ∃ ob, (Instr.entryStore t (.map (some g)) (goInt st) val).run P w = .ok () (setBlock w g ob) := by
  obtain ⟨es, cl, hb, x, hx, hst⟩ := h.ex
  cases hf : es.findIdx? (fun e => (e.born : Int) == (st : Int)) with
  | none =>
    rw [Array.findIdx?_eq_none_iff] at hf
    have := hf x (by simpa using hx)
    simp [hst] at this
  | some i =>
    refine ⟨.map (es.modify i fun e => { e with val := val }) cl, ?_⟩
    simp [Instr.entryStore, MapKept.run_getObj_map hb, goInt, asInt, asIntOf, hf, MapKept.run_setObj_map _ hb, Result.andThen, setBlock]
theorem OPS.entMap {d : Nat} (hop : o.op = .mapEntry t x ix) (hg : o.guard = none) (hd : o.dst = some d) (hN : Nat.blt d N = true) (M : MapAt P k w g m) (KY : Keyed P k) (ht : P.underlying t = some (.map k el)) (hz : ∀ w, (zeroValue el).run P w = .ok z w) (hkey : keyOf P k key = some kl)
    (hno : ∀ p ∈ m, p.1 ≠ key) (hx : ev e x = .map (some g)) (hi : ev e ix = key) (H : SH w0 S w L) (hm : g ∈ S ∨ w0.heap.size ≤ g)
    (h : ∀ w' (st : Nat), SH w0 S w' L → MapAt P k w' g (m ++ [(key, z)]) → StampAt w' g st → (∀ j, j ≠ g → w'.heap[j]? = w.heap[j]?) → OPS P N .plain ops K rest (upd e d (.tuple #[z, goInt st])) w') :
    OPS P N .plain ops K (o :: rest) e w := by
  obtain ⟨ob, st, h1, h2, h3⟩ := M.entry KY ht (hz w) hkey hno
  refine OPS.act (w' := setBlock w g ob) hg hd hN ?_ (h _ st (H.setB ob (M.notMem H) hm) h2 h3 fun j hj => heap_setB w g ob hj)
  unfold execOp; rw [hop]; simp only [hx, hi, Sem.run_bind, h1, Result.andThen_ok]; rfl
theorem OPS.stoMap {st : Nat} (hop : o.op = .entryStore t x ix y) (hg : o.guard = none) (hd : o.dst = none) (M : StampAt w g st)
    (hx : ev e x = .map (some g)) (hi : ev e ix = goInt st) (H : SH w0 S w L) (hm : g ∈ S ∨ w0.heap.size ≤ g)
    (h : ∀ w', SH w0 S w' L → (∀ j, j ≠ g → w'.heap[j]? = w.heap[j]?) → OPS P N .plain ops K rest e w') :
    OPS P N .plain ops K (o :: rest) e w := by
  obtain ⟨ob, h1⟩ := M.store (P := P) (t := t) (val := ev e y)
  refine OPS.actn (w' := setBlock w g ob) hg hd ?_ (h _ (H.setB ob (M.notMem H) hm) fun j hj => heap_setB w g ob hj)
  unfold execOp; rw [hop]; simp only [hx, hi, Sem.run_bind, h1, Result.andThen_ok]; rfl
end
end Go.W

/-
  Guards within guards.
-/
set_option linter.all false
namespace Go.W
open Go.RowKit
/-- the guard's slot says 'want' just where q -/
structure GB (v : Value) (want q : Bool) : Prop where
  out : v = .bool want ↔ q = true
theorem GB.b {v : Value} {b want : Bool} (h : v = .bool b) : GB v want (b == want) := ⟨by subst h; cases b <;> cases want <;> simp⟩
theorem GB.g {v : Value} {b1 w1 b2 want : Bool} (h : v = gv b1 w1 (.bool b2)) : GB v want ((b1 == w1) && (b2 == want)) := ⟨by
  subst h
  by_cases h1 : b1 = w1
  · subst h1; cases b2 <;> cases want <;> simp [gv]
  · simp [gv, h1, undef]⟩
section
variable {P : Program} {N : Nat} {m : Md} {ops : Array Oper} {K : Env → World → Prop} {e : Env} {w : World} {rest : List Oper} {o : Oper}
theorem yielded_gb {a : Act} {j dj : Nat} {want q : Bool} (hj : ops[j]?.bind (·.dst) = some dj) (h : GB (envOf a dj) want q) : (yielded ops a.tmps j == some want) = q := by
  have h2 := h.out
  unfold yielded
  simp only [envOf, undef] at h2
  rw [hj]
  simp only [Option.bind_some]
  cases ht : a.tmps[dj]? with
  | none =>
    simp only [Array.getD_eq_getD_getElem?, ht, Option.getD_none] at h2
    cases q with
    | true => simp at h2
    | false => rfl
  | some u =>
    simp only [Array.getD_eq_getD_getElem?, ht, Option.getD_some] at h2
    cases u with
    | bool x =>
      cases q with
      | true =>
        have := h2.2 rfl
        cases this; simp
      | false =>
        have hne : x ≠ want := fun e => by subst e; have := h2.1 rfl; cases this
        simp [hne]
    | _ =>
      cases q with
      | true => have := h2.2 rfl; cases this
      | false => rfl
theorem OPS.gvalN {d j dj : Nat} {want q : Bool} {v : Value} (hg : o.guard = some (j, want)) (hj : ops[j]?.bind (·.dst) = some dj) (hb : GB (e dj) want q) (hd : o.dst = some d) (hN : Nat.blt d N = true)
    (hE : q = true → Ev P e w o.type o.op v) (h : OPS P N m ops K rest (upd e d (gv q true v)) w) : OPS P N m ops K (o :: rest) e w :=
  ⟨fun a h1 h2 h3 => by
    have hn := h.run (a.put (some d) (gv q true v)) (by rw [envOf_put _ h2 hN, h1]) (by rw [size_put]; exact h2) (by rw [defers_put]; exact h3)
    have hy := yielded_gb (a := a) (want := want) (q := q) hj (h1 ▸ hb)
    have hwt : Region.wanted o (yielded ops a.tmps) = q := by simp only [Region.wanted, hg]; exact hy
    cases q with
    | true =>
      have hr := fun w' hb => (hE rfl).run w' hb o rfl rfl
      rw [← h1, ← eval_eq] at hr
      have hgv : gv true true v = v := by simp [gv]
      rw [hgv] at hn
      cases m with
      | plain =>
        simp only at hn ⊢
        unfold wpList
        rw [if_pos hwt]
        refine .inl ?_
        unfold Oper.wp
        rw [hr w (Below.refl _ _)]
        simp only [Oper.upon, hd]
        exact hn
      | still =>
        simp only at hn ⊢
        unfold wpStill
        rw [if_pos hwt]
        unfold Oper.still
        rw [hr w (Below.refl _ _)]
        simp only [Oper.stillUpon, hd]
        exact ⟨trivial, hn⟩
      | quiet =>
        simp only at hn ⊢
        unfold wpQuiet
        rw [if_pos hwt]
        refine ⟨v, fun w' hb => ?_, by rw [hd]; exact hn⟩
        unfold Oper.quietAt
        rw [hr w' hb]
        exact ⟨rfl, rfl⟩
    | false =>
      have hgv : gv false true v = undef := by simp [gv]
      rw [hgv] at hn
      cases m with
      | plain => simp only at hn ⊢; unfold wpList; rw [hwt, hd]; exact hn
      | still => simp only at hn ⊢; unfold wpStill; rw [hwt, hd]; exact hn
      | quiet => simp only at hn ⊢; unfold wpQuiet; rw [hwt, hd]; exact hn⟩
/-- a guarded call whose result is not known beforehand -/
theorem OPS.gcallN {α : Type} [Inhabited α] (val : α → Value) (R : α → World → Prop) {d j dj : Nat} {want q : Bool} {f : FuncId} {args : List Value}
    (hC : q = true → Calls P f args.toArray w fun e' w' => ∃ x, e' = .returned (val x) ∧ R x w' ∧ Below w.heap.size w w') (hg : o.guard = some (j, want)) (hj : ops[j]?.bind (·.dst) = some dj) (hb : GB (e dj) want q) (hd : o.dst = some d) (hN : Nat.blt d N = true)
    (hE : q = true → EvC P e o.op f args)
    (h : ∀ x w', (q = true → R x w') → Below w.heap.size w w' → OPS P N .plain ops K rest (upd e d (gv q true (val x))) w') : OPS P N .plain ops K (o :: rest) e w :=
  ⟨fun a h1 h2 h3 => by
    have hy := yielded_gb (a := a) (want := want) (q := q) hj (h1 ▸ hb)
    have hwt : Region.wanted o (yielded ops a.tmps) = q := by simp only [Region.wanted, hg]; exact hy
    simp only
    unfold wpList
    cases q with
    | true =>
      rw [if_pos hwt]
      refine .inl ?_
      unfold Oper.wp
      have hr := (hE rfl).run w o rfl
      rw [← h1, ← eval_eq] at hr
      rw [hr]
      refine (hC rfl).mono fun e' w' ⟨x, he, hR, hb2⟩ => ?_
      subst he
      have hn := (h x w' (fun _ => hR) hb2).run (a.put (some d) (gv true true (val x))) (by rw [envOf_put _ h2 hN, h1]) (by rw [size_put]; exact h2) (by rw [defers_put]; exact h3)
      have hgv : gv true true (val x) = val x := by simp [gv]
      rw [hgv] at hn
      rw [hd]
      exact hn
    | false =>
      have hn := (h default w (fun hx => by cases hx) (Below.refl _ _)).run (a.put (some d) (gv false true (val default))) (by rw [envOf_put _ h2 hN, h1]) (by rw [size_put]; exact h2) (by rw [defers_put]; exact h3)
      have hgv : gv false true (val default) = undef := by simp [gv]
      rw [hgv] at hn
      rw [hwt, hd]; exact hn⟩
end
section
variable {P : Program} {e : Env} {w : World} {ty : TypeId} {x y c : Operand}
theorem Ev.pickAnd2 {q b u : Bool} (hg : q = true) (hc : ev e c = .bool b) (hx : ev e x = gv (q && (b == true)) true (.bool u)) (hy : ev e y = .bool false) : Ev P e w ty (.pick c x y) (.bool (b && u)) := by
  have := Ev.pick (P := P) (w := w) (ty := ty) (x := x) (y := y) hc
  cases b <;> simpa [hx, hy, gv, hg] using this
theorem Ev.pickOr2 {q b u : Bool} (hg : q = true) (hc : ev e c = .bool b) (hx : ev e x = .bool true) (hy : ev e y = gv (q && (b == false)) true (.bool u)) : Ev P e w ty (.pick c x y) (.bool (b || u)) := by
  have := Ev.pick (P := P) (w := w) (ty := ty) (x := x) (y := y) hc
  cases b <;> simpa [hx, hy, gv, hg] using this
end
section
variable {P : Program} {N : Nat} {Kn : Env → World → Prop} {Kx : Nat → Env → World → Prop} {Kr : Env → World → Prop} {e : Env} {w : World}
/-- what holds behind a piece of code, however it went -/
theorem WP.cut {c : Code} (M : List Nat) (I : Env → World → Prop) (h : WP P N c (fun e' w' => Agree M e' e ∧ I e' w') Kx Kr e w) (hk : ∀ u w', I u w' → Kn (W.mix M u e) w') : WP P N c Kn Kx Kr e w :=
  WP.mono h (fun e' w' hh => by rw [hh.1.eq]; exact hk e' w' hh.2) (fun _ _ _ h => h) (fun _ _ h => h)
end
theorem beqT {b want : Bool} (h : b = want) : (b == want) = true := by simp [h]
end Go.W

/-
  Pointers and functions compared with nil, slice expressions, clear.
-/
set_option linter.all false
namespace Go.W
open Go.RowKit
section
variable {P : Program} {e : Env} {w : World} {ty t : TypeId} {x y : Operand}
theorem Ev.eqlPn {t' : TypeId} {el : TypeId} {a : Option Addr} (hU : ∀ w, (underlying t).run P w = .ok (.pointer el) w) (hx : ev e x = .pointer a) (hy : ev e y = .pointer none) : Ev P e w ty (.binOp .eql t x y t') (.bool a.isNone) :=
  ⟨fun w' _ o ho _ => by
    have hq : ∀ w, (Op.equal t (.pointer a) (.pointer none)).run P w = .ok a.isNone w := by
      intro w
      unfold Op.equal
      rw [show Op.maxDepth = 9999 + 1 from rfl, Op.equalIn]
      cases a <;> simp [hU]
    unfold execOp; rw [ho]; simp [hx, hy, eqGuard, binOp, hq]⟩
theorem Ev.eqlFn {t' : TypeId} {ps rs : Array TypeId} {v : Bool} {f : Fn} {fs cs : Array Value} (hU : ∀ w, (underlying t).run P w = .ok (.func ps rs v) w) (hx : ev e x = .func f fs cs) (hy : ev e y = .nilFunc) : Ev P e w ty (.binOp .eql t x y t') (.bool false) :=
  ⟨fun w' _ o ho _ => by
    have hq : ∀ w, (Op.equal t (.func f fs cs) .nilFunc).run P w = .ok false w := by
      intro w
      unfold Op.equal
      rw [show Op.maxDepth = 9999 + 1 from rfl, Op.equalIn]
      simp [hU]
    unfold execOp; rw [ho]; simp [hx, hy, eqGuard, binOp, hq]⟩
/-- x[j:] of a slice that holds more than j -/
theorem Ev.sliceFrom2 {i : Operand} {el n cap j sz b o : Nat} {k : IntKind} {ii : Int} (hU : ∀ w, (underlying t).run P w = .ok (.slice el) w) (hs : ∀ w, (Go.sizeOf el).run P w = .ok sz w)
    (hx : ev e x = .slice (some ⟨b, o, none⟩) n cap) (hi : ev e i = .int k ii) (hj : ii = (j : Int)) (hle : j ≤ n) (hlt : j < cap) : Ev P e w ty (.slice t x (some i) none none) (.slice (some ⟨b, o + j * sz, none⟩) (n - j) (cap - j)) := by
  have h := Ev.sliceFrom (P := P) (w := w) (ty := ty) hU hs hx hi hj hle
  rw [if_neg (by omega), Option.map_some, addr_add] at h
  exact h
end
/-- some of the first blocks, in another order; those behind stay -/
theorem SH.reidxT {w0 w : World} {S : List Nat} {L L' Lo : List Blk} (H : SH w0 S w (L ++ Lo)) (idx : List Nat) (hn : idx.Nodup) (hi : idx.map (fun i => L[i]?) = L'.map some) : SH w0 S w (L' ++ Lo) := by
  have h1 := (H.drop (List.sublist_append_left L Lo)).reidx idx hn hi
  have h2 := H.drop (List.sublist_append_right L Lo)
  have hmem : ∀ b ∈ L', b ∈ L := by
    intro b hb
    have h3 : some b ∈ idx.map (fun i => L[i]?) := by rw [hi]; exact List.mem_map_of_mem hb
    obtain ⟨i, _, h4⟩ := List.mem_map.1 h3
    exact List.mem_of_getElem? h4
  refine ⟨H.os, H.tape, H.output, H.size, H.low, fun b hb => ?_, fun b hb => ?_, ?_⟩
  · rcases List.mem_append.1 hb with hb | hb
    · exact h1.own b hb
    · exact h2.own b hb
  · rcases List.mem_append.1 hb with hb | hb
    · exact h1.may b hb
    · exact h2.may b hb
  · have hd := H.nodup
    rw [List.map_append, List.nodup_append] at hd ⊢
    refine ⟨h1.nodup, h2.nodup, fun a ha b hb => ?_⟩
    obtain ⟨c, hc, rfl⟩ := List.mem_map.1 ha
    exact hd.2.2 c.g (List.mem_map_of_mem (hmem c hc)) b hb
theorem upd_comm {e : Env} {a b : Nat} {x y : Value} (h : Nat.beq a b = false) : upd (upd e a x) b y = upd (upd e b y) a x := by
  have hne : a ≠ b := fun he => by subst he; rw [Nat.beq_refl] at h; cases h
  funext j
  simp only [upd]
  cases h1 : Nat.beq j b <;> cases h2 : Nat.beq j a <;> try rfl
  exact absurd ((Nat.eq_of_beq_eq_true h2).symm.trans (Nat.eq_of_beq_eq_true h1)) hne
theorem OPH.named {P : Program} {N : Nat} {ops : Array Oper} {K : Env → World → Prop} {w0 w : World} {S : List Nat} {L : List Blk} {f f' : Nat} {ls ls' : Array Bool} {e : Env} (hf : f = f') (hl : ls = ls')
    (h : ∀ Q : Nat → Array Bool → Env → World → Prop, Q = OPH P N ops K w0 S L → Q f' ls' e w) : OPH P N ops K w0 S L f ls e w := by subst hf hl; exact h _ rfl
theorem qcast {Q : Nat → Array Bool → Env → World → Prop} {f : Nat} {ls ls' : Array Bool} {e : Env} {w : World} (hl : ls = ls') (h : Q f ls' e w) : Q f ls e w := hl ▸ h
theorem qd {Q : Nat → Array Bool → Env → World → Prop} {f : Nat} {ls ls' : Array Bool} {e : Env} {w : World} (h : Q f ls' e w) (hl : ls = ls' := by kernel_rfl) : Q f ls e w := hl ▸ h
theorem uc {e : Env} (a b : Nat) {x y : Value} (h : Nat.beq a b = false := by rfl) : upd (upd e a x) b y = upd (upd e b y) a x := upd_comm h
def bb (n m : Nat) : Array Bool := ((List.range n).map fun i => m.testBit i).toArray
abbrev DQ (Q : Nat → Array Bool → Env → World → Prop) (k : Nat) (ls : Array Bool) (w0 : World) (S : List Nat) (L : List Blk) (e : Env) : Prop := ∀ w, SH w0 S w L → Q k ls e w
abbrev vS (g n : Nat) : Value := .slice (some ⟨g, 0, none⟩) n n
abbrev vP (g : Nat) : Value := .pointer (some ⟨g, 0, none⟩)
theorem SH.rx {w0 w : World} {S : List Nat} {L L' : List Blk} (H : SH w0 S w L) (ix : List Nat) (h1 : ix.Nodup := by decide) (h2 : ix.map (fun i => L[i]?) = L'.map some := by rfl) : SH w0 S w L' := H.reidx ix h1 h2
section
variable {P : Program} {N : Nat} {ops : Array Oper} {K : Env → World → Prop} {e : Env} {w w0 : World} {S : List Nat} {L : List Blk} {rest : List Oper} {o : Oper} {t : TypeId} {x y : Operand}
/-- an operation whose value is not kept -/
theorem OPS.actv {v : Value} {w' : World} (hg : o.guard = none) (hd : o.dst = none) (hr : (execOp (ev e) o).run P w = .ok (.value v) w')
    (h : OPS P N .plain ops K rest e w') : OPS P N .plain ops K (o :: rest) e w :=
  ⟨fun a h1 h2 h3 => by
    have hn := h.run a h1 h2 h3
    rw [← h1, ← eval_eq] at hr
    simp only at hn ⊢
    unfold wpList
    rw [if_pos (wanted_none hg _)]
    refine .inl ?_
    unfold Oper.wp
    rw [hr]
    simp only [Oper.upon, hd, Act.put]
    exact hn⟩
/-- clear(s) -/
theorem OPS.clear {el n c : Nat} {z : Value} {b : Blk} {zs : List Value} (i k : Nat) (hg : o.guard = none) (hd : o.dst = none)
    (hop : o.op = .call { callee := .builtin .clear, args := #[x], argTypes := #[t] }) (hU : ∀ w, (underlying t).run P w = .ok (.slice el) w) (hz : ∀ w, (zeroValue el).run P w = .ok z w) (hzs : z.cells = zs.toArray) (hz0 : 0 < zs.length)
    (h1 : (zs.all (·.oneCell')) = true) (hx : ev e x = .slice (some ⟨b.g, k, none⟩) n c) (hn : 0 < n) (H : SH w0 S w L) (hi : L[i]? = some b) (hk : k + n * zs.length ≤ b.cs.length)
    (h : ∀ w', SH w0 S w' (L.set i ⟨b.g, b.T, putL b.cs k (mkL n zs)⟩) → OPS P N .plain ops K rest e w') : OPS P N .plain ops K (o :: rest) e w := by
  have hm1 : ((mkL n zs).all (·.oneCell')) = true := by
    rw [List.all_eq_true] at h1 ⊢
    intro v hv
    rw [mkL, List.mem_flatten] at hv
    obtain ⟨l, hl, hv⟩ := hv
    rw [List.eq_of_mem_replicate hl] at hv
    exact h1 v hv
  obtain ⟨w', hr, H'⟩ := store_run (P := P) (mkL n zs) w L b k 0 H hi (by rw [mkL_length]; omega) hm1
  refine OPS.actv (v := .tuple #[]) (w' := w') hg hd ?_ (h w' H')
  have hzc : (Builtin.zeroCells z.cells n).toList = mkL n zs := by
    rw [hzs]
    have := mkCells n hz0
    simp only [Builtin.zeroCells] at *
    first | exact congrArg Array.toList this | simpa using congrArg Array.toList this
  obtain ⟨m, rfl⟩ : ∃ m, n = m + 1 := ⟨n - 1, by omega⟩
  unfold execOp; rw [hop]
  simp [resolve, invoke, builtin, hx, Builtin.clear_, hU, hz, hzc, hr]
end
end Go.W

/-
  A slice that is nil, or fills a block of the call's own.
-/
set_option linter.all false
namespace Go.W
open Go.RowKit
def OwnL {α : Type} (T : TypeId) (enc : α → Value) (A : Option Addr) (l : List α) (L : List Blk) : Prop := (A = none ∧ l = [] ∧ L = []) ∨ ∃ g, A = some ⟨g, 0, none⟩ ∧ L = [⟨g, T, l.map enc⟩]
theorem OwnL.nil {α : Type} {T : TypeId} {enc : α → Value} : OwnL T enc none ([] : List α) [] := .inl ⟨rfl, rfl, rfl⟩
theorem OwnL.mk {α : Type} {T : TypeId} {enc : α → Value} (g : Nat) (l : List α) : OwnL T enc (some ⟨g, 0, none⟩) l [⟨g, T, l.map enc⟩] := .inr ⟨g, rfl, rfl⟩
theorem OwnL.rd {α : Type} {T : TypeId} {enc : α → Value} {A : Option Addr} {l : List α} {L L' : List Blk} {w0 w : World} {S : List Nat} (h : OwnL T enc A l L) (H : SH w0 S w L') (hs : ∀ b ∈ L, b ∈ L') : OnesAt enc w A l := by
  rcases h with ⟨rfl, rfl, rfl⟩ | ⟨g, rfl, rfl⟩
  · exact OnesAt.nil
  · intro k hk
    refine ⟨g, 0, rfl, ?_⟩
    obtain ⟨i, hi⟩ := List.getElem?_of_mem (hs ⟨g, T, l.map enc⟩ (by simp))
    rw [Nat.zero_add]
    refine H.ldL i hi k ?_
    show (l.map enc)[k]? = _
    rw [List.getElem?_map, List.getElem?_eq_getElem hk]; rfl
section
variable {P : Program} {N : Nat} {ops : Array Oper} {K : Env → World → Prop} {e : Env} {w w0 : World} {S : List Nat} {L : List Blk} {rest : List Oper} {o : Oper} {t : TypeId} {x y : Operand}
theorem append0_run {el sz n cap cx : Nat} {A Ax : Option Addr} {ty : TypeId} (hU : ∀ w, (underlying t).run P w = .ok (.slice el) w) (hs : ∀ w, (Go.sizeOf el).run P w = .ok sz w) (hle : n ≤ cap) (w : World) :
    (Builtin.append_ #[t, t] ty #[.slice A n cap, .slice Ax 0 cx]).run P w = .ok (.slice A n cap) w := by
  unfold Builtin.append_
  have hz : (loadCells · 0 : Addr → Sem (Array Value)) = fun _ => pure #[] := by funext a; rfl
  cases A <;> cases Ax <;> simp [hU, hs, Builtin.lenOf, Builtin.firstCells, hle, loadCells, loadCellsFrom, storeCells]
/-- as OPS.append; what is appended may also be nothing -/
theorem OPS.appendE {d el sz bt n m cap cx : Nat} {ty2 : Array TypeId} {A Ax : Option Addr} {zs xs news : List Value} {Lo R : List Blk} (hg : o.guard = none) (hd : o.dst = some d) (hN : Nat.blt d N = true)
    (hop : o.op = .call { callee := .builtin .append, args := #[x, y], argTypes := ty2 }) (hty : ty2 = #[t, t]) (hf : SlFact P t el sz bt zs)
    (hx : ev e x = .slice A n cap) (hy : ev e y = .slice Ax m cx) (hO : OwnS A cap n xs el sz Lo) (hl : news.length = m * sz) (hs : m = 0 ∨ ∃ b o, Ax = some ⟨b, o, none⟩ ∧ cellsAt w b o news) (h1 : (news.all (·.oneCell')) = true)
    (hbd : (n + m) * bt ≤ 140737488355328) (hbd2 : n + m ≤ maxLen) (H : SH w0 S w L) (hp : L.Perm (R ++ Lo))
    (h : ∀ A' cap' Lo' w', OwnS A' cap' (n + m) (xs ++ news) el sz Lo' → SH w0 S w' (R ++ Lo') → OPS P N .plain ops K rest (upd e d (.slice A' (n + m) cap')) w') : OPS P N .plain ops K (o :: rest) e w := by
  rcases hs with rfl | hs
  · have hn0 : news = [] := List.length_eq_zero_iff.1 (by rw [hl]; simp)
    subst hn0
    have hle : n ≤ cap := by rcases hO.form with ⟨_, q, _, _⟩ | ⟨_, _, _, _, q, _, _⟩ <;> omega
    have hsz : ∀ w, (Go.sizeOf el).run P w = .ok sz w := fun w => by
      obtain ⟨i, z, i1, i2, i3, i4, i5⟩ := hf.info
      have ht : (typeInfo el).run P w = .ok i w := by unfold typeInfo program; simp only [Sem.run_bind, Sem.run, Result.andThen_ok, i1, Sem.run_pure]
      unfold Go.sizeOf; simp only [Sem.run_bind, ht, Result.andThen_ok, i3, Sem.run_pure]
    refine OPS.act (v := .slice A n cap) (w' := w) hg hd hN ?_ (h A cap Lo w (by simpa using hO) (H.perm hp))
    unfold execOp; rw [hop, hty]
    simp only [resolve, Sem.run_bind, Sem.run_pure, Result.andThen_ok, invoke, builtin]
    have := append0_run (P := P) (t := t) (ty := o.type) (A := A) (Ax := Ax) (cx := cx) hf.undRun hsz hle w
    simp [hx, hy, this]
  · exact OPS.append hg hd hN hop hty hf hx hy hO hl hs h1 hbd hbd2 H hp h
end
end Go.W

/-
  Lists of rows as sources of append; permutations of blocks by counting.
-/
set_option linter.all false
namespace Go.W
open Go.RowKit
open Classical in
theorem sumCount {α : Type} (l : List α) (x : α) : (l.map fun a => if a = x then 1 else 0).sum = l.count x := by
  induction l with
  | nil => rfl
  | cons a l ih =>
    rw [List.map_cons, List.sum_cons, ih, List.count_cons]
    by_cases h : a = x <;> simp [h] <;> omega
open Classical in
theorem permBy {α : Type} {l l' : List α} (h : ∀ f : α → Nat, (l.map f).sum = (l'.map f).sum) : l.Perm l' :=
  List.perm_iff_count.2 fun x => by rw [← sumCount, ← sumCount]; exact h _
theorem cellsApp {w : World} {b : Nat} : ∀ {vs us : List Value} {o : Nat}, cellsAt w b o vs → cellsAt w b (o + vs.length) us → cellsAt w b o (vs ++ us)
  | [], us, o, _, h => by simpa using h
  | v :: vs, us, o, h1, h2 => ⟨h1.1, cellsApp h1.2 (by rw [show o + 1 + vs.length = o + (v :: vs).length by simp; omega]; exact h2)⟩
theorem rowsCellsAt {α : Type} {sz : Nat} {enc : α → List Value} {w : World} (hsz : ∀ x, (enc x).length = sz) : ∀ (l : List α) {b : Nat} (o : Nat), RowsAt sz enc w (some ⟨b, o, none⟩) l → cellsAt w b o (l.flatMap enc)
  | [], _, _, _ => trivial
  | x :: l, b, o, h => by
    rw [List.flatMap_cons]
    have h0 := h 0 (by simp)
    obtain ⟨b0, o0, e, h1⟩ := h0
    cases e
    refine cellsApp (by simpa using h1) ?_
    rw [hsz]
    refine rowsCellsAt hsz l (o + sz) fun k hk => ?_
    obtain ⟨b1, o1, e1, h2⟩ := h (k + 1) (by simpa using hk)
    cases e1
    refine ⟨_, _, rfl, ?_⟩
    rw [show o + sz + k * sz = o + (k + 1) * sz by rw [Nat.succ_mul]; omega]
    simpa using h2
theorem rowsFrom {α : Type} {sz : Nat} {enc : α → List Value} {w : World} {A : Option Addr} {l : List α} (hsz : ∀ x, (enc x).length = sz) (h : RowsAt sz enc w A l) : l.length = 0 ∨ ∃ b o, A = some ⟨b, o, none⟩ ∧ cellsAt w b o (l.flatMap enc) := by
  rcases Nat.eq_zero_or_pos l.length with h0 | h0
  · exact .inl h0
  · obtain ⟨b, o, rfl, _⟩ := h 0 h0
    exact .inr ⟨b, o, rfl, rowsCellsAt hsz l o h⟩
theorem rowsOne {α : Type} {enc : α → List Value} (he : ∀ x, ((enc x).all (·.oneCell')) = true) (l : List α) : ((l.flatMap enc).all (·.oneCell')) = true := by
  rw [List.all_eq_true]
  intro v hv
  obtain ⟨x, _, hx⟩ := List.mem_flatMap.1 hv
  exact List.all_eq_true.1 (he x) v hx
theorem OwnS.mt {g el sz : Nat} : OwnS (some ⟨g, 0, none⟩) 0 0 [] el sz [⟨g, el, []⟩] := ⟨by simp, .inr ⟨g, [], rfl, rfl, Nat.le_refl _, by unfold maxLen; omega, by simp⟩⟩
/-- these blocks are among those -/
class Sb (L' L : List Blk) : Prop where
  out : L'.Sublist L
instance (L : List Blk) : Sb L L := ⟨List.Sublist.refl _⟩
instance (L M N : List Blk) [h : Sb L N] : Sb L (M ++ N) := ⟨h.out.trans (List.sublist_append_right _ _)⟩
instance (L M N : List Blk) [h : Sb L M] : Sb L (M ++ N) := ⟨h.out.trans (List.sublist_append_left _ _)⟩
instance (L M : List Blk) (b : Blk) [h : Sb L M] : Sb L (b :: M) := ⟨h.out.cons b⟩
end Go.W

/-
  Events as numbers, and how they are compared.
-/
set_option linter.all false
namespace Go.Proofs.Ytchjbjplddhknaa
open Go

structure Evt where
  d : Int
  s : Int
  a : Int
  l : Int
  k : Int
  b : Int
  p : Int
  r : Int
  i : Int
deriving DecidableEq, Inhabited
def evC (x : Evt) : List Value := [.int .i64 x.d, .int .i64 x.s, .int .i64 x.a, .int .i64 x.l, .int .i64 x.k, .int .i64 x.b, .int .i64 x.p, .int .i64 x.r, .int .i64 x.i]
theorem evC_len (x : Evt) : (evC x).length = 9 := rfl
theorem evC_one (x : Evt) : ∀ v ∈ evC x, v.oneCell' = true := by
  intro v hv
  simp only [evC, List.mem_cons, List.not_mem_nil, or_false] at hv
  rcases hv with rfl | rfl | rfl | rfl | rfl | rfl | rfl | rfl | rfl <;> rfl
def cmpI (a b : Int) : Int := if a < b then -1 else if b < a then 1 else 0
def orI : List Int → Int
  | [] => 0
  | x :: l => if x ≠ 0 then x else orI l
theorem orI_drop {l : List Int} : ∀ {j : Nat}, j ≤ l.length → (∀ i (h : i < l.length), i < j → l[i] = 0) → orI l = orI (l.drop j)
  | 0, _, _ => by simp
  | j + 1, hj, h => by
    rw [orI_drop (j := j) (by omega) (fun i h1 h2 => h i h1 (by omega)), List.drop_eq_getElem_cons (show j < l.length by omega), orI, if_neg (by simpa using h j (by omega) (by omega))]
def evK (x : Evt) : List Int := [x.a, x.d, x.s, x.l, x.k, x.b, x.p, x.r, x.i]
theorem evK_len (x : Evt) : (evK x).length = 9 := rfl
/-- compare: the first of the nine comparisons that is not 0 -/
def cmpL : List Int → List Int → Int
  | x :: a, y :: b => if cmpI x y ≠ 0 then cmpI x y else cmpL a b
  | _, _ => 0
def cmpE (x y : Evt) : Int := cmpL (evK x) (evK y)
theorem cmpL_drop : ∀ {j : Nat} {a b : List Int}, j ≤ a.length → a.length = b.length → (∀ i, i < j → a.getD i 0 = b.getD i 0) → cmpL a b = cmpL (a.drop j) (b.drop j)
  | 0, _, _, _, _, _ => rfl
  | j + 1, [], b, h, _, _ => by simp at h
  | j + 1, x :: a, [], _, h, _ => by simp at h
  | j + 1, x :: a, y :: b, h, hl, he => by
    have h0 : x = y := he 0 (by omega)
    subst h0
    rw [cmpL, if_neg (by simp [cmpI]), List.drop_succ_cons, List.drop_succ_cons]
    exact cmpL_drop (by simpa using h) (by simpa using hl) (fun i hi => he (i + 1) (by omega))
def ordE (x y : Evt) : Int := if cmpE x y < 0 then -1 else if cmpE y x < 0 then 1 else 0
def numC (x y : Evt) : Int := orI [cmpI x.d y.d, cmpI x.s y.s, cmpE x y]
theorem cmpI_zero {a b : Int} : cmpI a b = 0 ↔ a = b := by unfold cmpI; split <;> (try split) <;> omega
end Go.Proofs.Ytchjbjplddhknaa

/-
  Walks of the comparisons, with the count of draws: cmp.Compare, cmp.Or, compare, Less, order, the closure of Set.
-/
set_option linter.all false
namespace Go.Proofs.Ytchjbjplddhknaa.D
open Go Go.WD Go.RowKit

theorem cmpNaN (a : Int) (w0 : World) : Calls Try.prog 53 #[I a] w0 fun e w' => e = .returned (.bool false) ∧ Bel w0.heap.size w0 w' := by
  have H := SH.refl w0
  refine Calls.ofWP Try.func53 rfl Try.results53 Try.ntmps53 rfl ?_
  refine WP.seq ?_
  refine WP.region ?_
  refine OPS.val rfl rfl rfl (Ev.asB rfl) ?_
  refine OPS.nil ?_
  refine WP.seq ?_
  refine WP.region ?_
  refine OPS.val rfl rfl rfl (Ev.mvI rfl) ?_
  refine OPS.val rfl rfl rfl (Ev.mvI rfl) ?_
  refine OPS.val rfl rfl rfl (Ev.neq rfl rfl) ?_
  refine OPS.val rfl rfl rfl (Ev.asB rfl) ?_
  refine OPS.nil ?_
  refine WP.ret ⟨_, rfl, ?_⟩
  exact ⟨by simp; rfl, H.below⟩
theorem cmpCompare (a b : Int) (w0 : World) : Calls Try.prog 37 #[I a, I b] w0 fun e w' => e = .returned (I (cmpI a b)) ∧ Bel w0.heap.size w0 w' := by
  have H := SH.refl w0
  refine Calls.ofWP Try.func37 rfl Try.results37 Try.ntmps37 rfl ?_
  refine WP.seq ?_
  refine WP.region ?_
  refine OPS.val rfl rfl rfl (Ev.asI rfl) ?_
  refine OPS.nil ?_
  refine WP.seq ?_
  refine WP.region ?_
  refine OPS.val rfl rfl rfl (Ev.mvI rfl) ?_
  refine OPS.call (d := some 8) rfl rfl rfl (EvC.func (fun_run rfl)) (cmpNaN a _) ?_
  rintro _ w ⟨rfl, hb⟩
  refine ⟨_, rfl, ?_⟩
  replace H := H.toBelow hb; clear hb
  refine OPS.val rfl rfl rfl (Ev.asB rfl) ?_
  refine OPS.nil ?_
  refine WP.seq ?_
  refine WP.region ?_
  refine OPS.val rfl rfl rfl (Ev.mvI rfl) ?_
  refine OPS.call (d := some 10) rfl rfl rfl (EvC.func (fun_run rfl)) (cmpNaN b _) ?_
  rintro _ w ⟨rfl, hb⟩
  refine ⟨_, rfl, ?_⟩
  replace H := H.toBelow hb; clear hb
  refine OPS.val rfl rfl rfl (Ev.asB rfl) ?_
  refine OPS.nil ?_
  refine WP.seq ?_
  refine WP.seq ?_
  refine WP.region ?_
  refine OPS.val rfl rfl rfl (Ev.mvB rfl) ?_
  refine OPS.nil ?_
  refine WP.cond rfl (fun hc3 => ?_) (fun hc3 => ?_)
  · refine WP.seq ?_
    refine WP.seq ?_
    refine WP.region ?_
    refine OPS.val rfl rfl rfl (Ev.mvB rfl) ?_
    refine OPS.nil ?_
    refine WP.cond rfl (fun hc4 => ?_) (fun hc4 => ?_)
    · refine WP.seq ?_
      refine WP.region ?_
      refine OPS.val rfl rfl rfl (Ev.asI rfl) ?_
      refine OPS.nil ?_
      refine WP.ret ⟨_, rfl, ?_⟩
      cases hc3
    refine WP.skip ?_
    refine WP.seq ?_
    refine WP.region ?_
    refine OPS.val rfl rfl rfl (Ev.asI rfl) ?_
    refine OPS.nil ?_
    refine WP.ret ⟨_, rfl, ?_⟩
    cases hc3
  refine WP.skip ?_
  refine WP.seq ?_
  refine WP.seq ?_
  refine WP.region ?_
  refine OPS.val rfl rfl rfl (Ev.mvB rfl) ?_
  refine OPS.nil ?_
  refine WP.cond rfl (fun hc7 => ?_) (fun hc7 => ?_)
  · refine WP.seq ?_
    refine WP.region ?_
    refine OPS.val rfl rfl rfl (Ev.asI rfl) ?_
    refine OPS.nil ?_
    refine WP.ret ⟨_, rfl, ?_⟩
    cases hc7
  refine WP.skip ?_
  refine WP.seq ?_
  refine WP.seq ?_
  refine WP.region ?_
  refine OPS.val rfl rfl rfl (Ev.mvI rfl) ?_
  refine OPS.val rfl rfl rfl (Ev.mvI rfl) ?_
  refine OPS.val rfl rfl rfl (Ev.lss rfl rfl) ?_
  refine OPS.nil ?_
  refine WP.cond rfl (fun hc9 => ?_) (fun hc9 => ?_)
  · refine WP.seq ?_
    refine WP.region ?_
    refine OPS.val rfl rfl rfl (Ev.asI rfl) ?_
    refine OPS.nil ?_
    refine WP.ret ⟨_, rfl, ?_⟩
    have h : a < b := by simpa using hc9
    exact ⟨by rw [cmpI, if_pos h]; rfl, H.below⟩
  refine WP.skip ?_
  refine WP.seq ?_
  refine WP.seq ?_
  refine WP.region ?_
  refine OPS.val rfl rfl rfl (Ev.mvI rfl) ?_
  refine OPS.val rfl rfl rfl (Ev.mvI rfl) ?_
  refine OPS.val rfl rfl rfl (Ev.gtr rfl rfl) ?_
  refine OPS.nil ?_
  refine WP.cond rfl (fun hc11 => ?_) (fun hc11 => ?_)
  · refine WP.seq ?_
    refine WP.region ?_
    refine OPS.val rfl rfl rfl (Ev.asI rfl) ?_
    refine OPS.nil ?_
    refine WP.ret ⟨_, rfl, ?_⟩
    have h : ¬ a < b := by simpa using hc9
    have h2 : b < a := by simpa using hc11
    exact ⟨by rw [cmpI, if_neg h, if_pos h2]; rfl, H.below⟩
  refine WP.skip ?_
  refine WP.seq ?_
  refine WP.region ?_
  refine OPS.val rfl rfl rfl (Ev.asI rfl) ?_
  refine OPS.nil ?_
  refine WP.ret ⟨_, rfl, ?_⟩
  have h : ¬ a < b := by simpa using hc9
  have h2 : ¬ b < a := by simpa using hc11
  exact ⟨by rw [cmpI, if_neg h, if_neg h2]; rfl, H.below⟩
theorem cmpOr (A : Option Addr) (l : List Int) (cap : Nat) (w0 : World) (hz : IntsAt w0 A l) (hl : l.length ≤ 1000) :
    Calls Try.prog 36 #[.slice A l.length cap] w0 fun e w' => e = .returned (I (orI l)) ∧ Bel w0.heap.size w0 w' := by
  have H := SH.refl w0
  refine Calls.ofWP Try.func36 rfl Try.results36 Try.ntmps36 rfl ?_
  refine WP.seq ?_
  refine WP.region ?_
  refine OPS.val rfl rfl rfl (Ev.asI rfl) ?_
  refine OPS.nil ?_
  refine WP.seq ?_
  refine WP.region ?_
  refine OPS.val rfl rfl rfl (Ev.asI rfl) ?_
  refine OPS.nil ?_
  refine WP.seq ?_
  refine WP.seq ?_
  refine WP.region ?_
  refine OPS.val rfl rfl rfl (Ev.mvS rfl) ?_
  refine OPS.val rfl rfl rfl (Ev.len (el_run rfl) rfl) ?_
  refine OPS.val rfl rfl rfl (Ev.mvI rfl) ?_
  refine OPS.nil ?_
  refine WP.block ?_
  refine WP.loop [2, 5, 8, 9, 10, 11, 12, 13, 14, 15, 16] (fun k e w' => ∃ (j : Nat), j + k = l.length ∧ e 8 = I j ∧ (∀ i (h : i < l.length), i < j → l[i] = 0) ∧ SH w0 [] w' []) (l.length) (⟨0, by omega, rfl, fun _ _ _ => by omega, H⟩) ?_
  clear H
  rintro k u w ⟨j, hk, h8, hall, H⟩
  refine WP.know (t := 8) h8 ?_
  refine WP.seq ?_
  refine WP.region ?_
  refine OPS.val rfl rfl rfl (Ev.lss rfl rfl) ?_
  refine OPS.nil ?_
  refine WP.seq ?_
  refine WP.cond rfl (fun hc3 => ?_) (fun hc3 => ?_)
  · have hlt : j < l.length := by simpa using hc3
    obtain ⟨b, o, rfl, hx⟩ := hz j hlt
    refine WP.skip ?_
    refine WP.seq ?_
    refine WP.block ?_
    refine WP.seq ?_
    refine WP.region ?_
    refine OPS.val rfl rfl rfl ((by first | exact Ev.indexAddr1 (el_run rfl) (size_run rfl) rfl rfl rfl (by omega) | exact Ev.indexAddr (el_run rfl) (size_run rfl) rfl rfl rfl (by omega))) ?_
    refine OPS.val rfl rfl rfl (Ev.load1 (agg_run rfl) rfl (by first | exact H.ldL 0 rfl _ rfl | exact H.ldL 1 rfl _ rfl | exact H.ldL 2 rfl _ rfl | exact H.ldL 3 rfl _ rfl | exact H.ldL 4 rfl _ rfl | exact H.ldL 5 rfl _ rfl | exact H.ldL 6 rfl _ rfl | exact H.ldL 7 rfl _ rfl | exact H.ld0 (by assumption) | assumption | exact H.ldS (by assumption) (by assumption))) ?_
    refine OPS.val rfl rfl rfl (Ev.asI rfl) ?_
    refine OPS.nil ?_
    refine WP.seq ?_
    refine WP.region ?_
    refine OPS.val rfl rfl rfl (Ev.mvI rfl) ?_
    refine OPS.val rfl rfl rfl (Ev.mvI rfl) ?_
    refine OPS.val rfl rfl rfl (Ev.neq rfl rfl) ?_
    refine OPS.nil ?_
    refine WP.cond rfl (fun hc5 => ?_) (fun hc5 => ?_)
    · refine WP.seq ?_
      refine WP.region ?_
      refine OPS.val rfl rfl rfl (Ev.mvI rfl) ?_
      refine OPS.val rfl rfl rfl (Ev.asI rfl) ?_
      refine OPS.nil ?_
      refine WP.ret ⟨_, rfl, ?_⟩
      have hne : l[j] ≠ 0 := by simpa using hc5
      exact ⟨by rw [orI_drop (j := j) (by omega) hall, List.drop_eq_getElem_cons hlt, orI, if_pos hne]; rfl, H.below⟩
    have hne : l[j] = 0 := by simpa using hc5
    refine WP.skip ?_
    refine WP.region ?_
    refine OPS.val rfl rfl rfl (Ev.add rfl rfl (by unfold fits; omega)) ?_
    refine OPS.val rfl rfl rfl (Ev.mvI rfl) ?_
    refine OPS.nil ?_
    exact ⟨(by repeat (first | exact Agree.refl _ _ | exact Agree.mix _ _ _ | refine Agree.upd rfl ?_ | refine Agree.mix2 rfl ?_)), k - 1, by omega, j + 1, by omega, rfl, (fun i h1 h2 => by
      rcases Nat.lt_or_eq_of_le (Nat.le_of_lt_succ h2) with h | rfl
      · exact hall i h1 h
      · exact hne), H⟩
  refine WP.exit ?_
  refine XB.hit ?_
  refine WP.seq ?_
  refine WP.region ?_
  refine OPS.val rfl rfl rfl (Ev.mvI rfl) ?_
  refine OPS.val rfl rfl rfl (Ev.asI rfl) ?_
  refine OPS.nil ?_
  refine WP.ret ⟨_, rfl, ?_⟩
  have hj : j = l.length := by simp at hc3; omega
  exact ⟨by rw [orI_drop (j := j) (by omega) hall, hj, List.drop_length]; rfl, H.below⟩
end Go.Proofs.Ytchjbjplddhknaa.D
