/-
  More rules: copy.
-/
import Derived.Test.YtfddebpeiilohaaElems
import Derived.Laws.CopyRow
set_option linter.all false
namespace Go.W
open Go.RowKit
section
variable {P : Program} {N : Nat} {ops : Array Oper} {K : Env → World → Prop} {e : Env} {w w0 : World} {S : List Nat} {L : List Blk} {rest : List Oper} {o : Oper} {t : TypeId} {x y : Operand}
/-- copy of a whole list into a block of the call's own; elements of one cell -/
theorem OPS.copy {d el n sb so c c' : Nat} {b : Blk} {vs : List Value} (i k : Nat) (hg : o.guard = none) (hd : o.dst = some d) (hN : Nat.blt d N = true)
    (hop : o.op = .call { callee := .builtin .copy, args := #[x, y], argTypes := #[t, t] }) (hU : ∀ w, (underlying t).run P w = .ok (.slice el) w) (hs : ∀ w, (Go.sizeOf el).run P w = .ok 1 w)
    (hx : ev e x = .slice (some ⟨b.g, k, none⟩) n c) (hy : ev e y = .slice (some ⟨sb, so, none⟩) n c') (hn : vs.length = n) (hsrc : cellsAt w sb so vs) (h1 : (vs.all (·.oneCell')) = true)
    (H : SH w0 S w L) (hi : L[i]? = some b) (hk : k + n ≤ b.cs.length)
    (h : ∀ w', SH w0 S w' (L.set i ⟨b.g, b.T, putL b.cs k vs⟩) → OPS P N .plain ops K rest (upd e d (.int .i64 n)) w') : OPS P N .plain ops K (o :: rest) e w := by
  obtain ⟨w', hr, H'⟩ := store_run (P := P) vs w L b k 0 H hi (by omega) h1
  refine OPS.act (v := .int .i64 n) (w' := w') hg hd hN ?_ (h w' H')
  unfold execOp; rw [hop]
  have hl := loadCells_at (P := P) vs hsrc
  rw [hn] at hl
  simp [resolve, invoke, builtin, hx, hy, Builtin.copy_, hU, hs, Builtin.lenOf, Builtin.firstCells, hl, hr, goInt]
/-- as OPS.box, OPS.alloc, OPS.makeSlice, OPS.buildSlice, with what the new world keeps -/
theorem OPS.boxB {d : Nat} {cs : List Value} (hg : o.guard = none) (hd : o.dst = some d) (hN : Nat.blt d N = true) (hop : o.op = .box t x) (hx : (ev e x).cells = cs.toArray) (H : SH w0 S w L)
    (h : ∀ g w', Below w.heap.size w w' → SH w0 S w' (⟨g, t, cs⟩ :: L) → OPS P N .plain ops K rest (upd e d (.pointer (some ⟨g, 0, none⟩))) w') : OPS P N .plain ops K (o :: rest) e w :=
  OPS.act (v := .pointer (some ⟨w.heap.size, 0, none⟩)) (w' := w.alloc (.cells cs.toArray t)) hg hd hN (by unfold execOp; rw [hop]; simp [Instr.box, newVar, newRow, newObj, Sem.run, hx]) (h _ _ ((Below.refl _ _).alloc (Nat.le_refl _) _) (H.alloc t cs))
theorem OPS.allocB {d : Nat} {z : Value} {cs : List Value} (hg : o.guard = none) (hd : o.dst = some d) (hN : Nat.blt d N = true) (hop : o.op = .alloc t) (hz : ∀ w, (zeroValue t).run P w = .ok z w) (hx : z.cells = cs.toArray) (H : SH w0 S w L)
    (h : ∀ g w', Below w.heap.size w w' → SH w0 S w' (⟨g, t, cs⟩ :: L) → OPS P N .plain ops K rest (upd e d (.pointer (some ⟨g, 0, none⟩))) w') : OPS P N .plain ops K (o :: rest) e w :=
  OPS.act (v := .pointer (some ⟨w.heap.size, 0, none⟩)) (w' := w.alloc (.cells cs.toArray t)) hg hd hN (by unfold execOp; rw [hop]; simp [Instr.alloc, hz, newVar, newRow, newObj, Sem.run, hx]) (h _ _ ((Below.refl _ _).alloc (Nat.le_refl _) _) (H.alloc t cs))
theorem OPS.makeSliceB {d el sz bt m : Nat} {n : Int} {k k' : IntKind} {zs : List Value} (hg : o.guard = none) (hd : o.dst = some d) (hN : Nat.blt d N = true) (hop : o.op = .makeSlice t x y) (hf : SlFact P t el sz bt zs)
    (hx : ev e x = .int k n) (hy : ev e y = .int k' n) (hn : n = (m : Int)) (hb : bt * m ≤ 140737488355328) (hm : m ≤ 9223372036854775807) (H : SH w0 S w L)
    (h : ∀ g w', Below w.heap.size w w' → SH w0 S w' (⟨g, el, mkL m zs⟩ :: L) → OPS P N .plain ops K rest (upd e d (.slice (some ⟨g, 0, none⟩) m m)) w') : OPS P N .plain ops K (o :: rest) e w := by
  subst hn
  refine OPS.act (v := .slice (some ⟨w.heap.size, 0, none⟩) m m) (w' := w.alloc (.cells (mkL m zs).toArray el)) hg hd hN ?_ (h _ _ ((Below.refl _ _).alloc (Nat.le_refl _) _) (H.alloc _ _))
  unfold execOp; rw [hop]
  simp only [hx, hy, Sem.run_bind, run_makeSlice_own hf m k k' hb hm w, Result.andThen_ok, Sem.run_pure]
theorem OPS.buildSliceB {d el n : Nat} {cs : List Value} {parts : List (Nat × Operand)} (hg : o.guard = none) (hd : o.dst = some d) (hN : Nat.blt d N = true) (hop : o.op = .buildSlice t n parts.toArray)
    (hr : ∀ w, (Instr.buildSlice t n (parts.map fun p => (p.1, ev e p.2)).toArray).run P w = .ok (.slice (some ⟨w.heap.size, 0, none⟩) n n) (w.alloc (.cells cs.toArray el))) (H : SH w0 S w L)
    (h : ∀ g w', Below w.heap.size w w' → SH w0 S w' (⟨g, el, cs⟩ :: L) → OPS P N .plain ops K rest (upd e d (.slice (some ⟨g, 0, none⟩) n n)) w') : OPS P N .plain ops K (o :: rest) e w := by
  refine OPS.act (v := .slice (some ⟨w.heap.size, 0, none⟩) n n) (w' := w.alloc (.cells cs.toArray el)) hg hd hN ?_ (h _ _ ((Below.refl _ _).alloc (Nat.le_refl _) _) (H.alloc _ _))
  unfold execOp; rw [hop]
  simp only [List.map_toArray, Sem.run_bind, hr, Result.andThen_ok, Sem.run_pure]
/-- a guarded call in a quiet region, the contract first -/
theorem OPS.gcallq2 {d j dj : Nat} {want b : Bool} {f : FuncId} {args : List Value} {v : Value}
    (hC : b = want → ∀ w', Below w.heap.size w w' → Calls P f args.toArray w' fun e' w'' => e' = .returned v ∧ Below w'.heap.size w' w'')
    (hg : o.guard = some (j, want)) (hj : ops[j]?.bind (·.dst) = some dj) (hb : e dj = .bool b) (hd : o.dst = some d) (hN : Nat.blt d N = true) (hE : b = want → EvC P e o.op f args)
    (h : OPS P N .quiet ops K rest (upd e d (gv b want v)) w) : OPS P N .quiet ops K (o :: rest) e w :=
  ⟨fun a h1 h2 h3 => by
    have hn := h.run (a.put (some d) (gv b want v)) (by rw [envOf_put _ h2 hN, h1]) (by rw [size_put]; exact h2) (by rw [defers_put]; exact h3)
    have hy := yielded_of (a := a) hj (h1 ▸ hb)
    simp only at hn ⊢
    unfold wpQuiet
    by_cases hw : b = want
    · subst hw
      have hwt : Region.wanted o (yielded ops a.tmps) = true := by simp [Region.wanted, hg, hy]
      have hgv : gv b b v = v := by simp [gv]
      rw [hgv] at hn
      rw [if_pos hwt]
      refine ⟨v, fun w' hb => ?_, by rw [hd]; exact hn⟩
      unfold Oper.quietAt
      have hr := (hE rfl).run w' o rfl
      rw [← h1, ← eval_eq] at hr
      rw [hr]
      exact ⟨rfl, (hC rfl w' hb).mono fun e' w'' ⟨he, hb2⟩ => ⟨he, hb.trans (hb2.mono hb.size)⟩⟩
    · have hwt : Region.wanted o (yielded ops a.tmps) = false := by simp [Region.wanted, hg, hy, hw]
      have hgv : gv b want v = undef := by simp [gv, hw]
      rw [hgv] at hn
      rw [hwt, hd]; exact hn⟩
/-- a guarded call whose result is not known beforehand -/
theorem OPS.gcallX {α : Type} [Inhabited α] (val : α → Value) (R : α → World → Prop) {d j dj : Nat} {want b : Bool} {f : FuncId} {args : List Value}
    (hC : b = want → Calls P f args.toArray w fun e' w' => ∃ x, e' = .returned (val x) ∧ R x w' ∧ Below w.heap.size w w') (hg : o.guard = some (j, want)) (hj : ops[j]?.bind (·.dst) = some dj) (hb : e dj = .bool b) (hd : o.dst = some d) (hN : Nat.blt d N = true)
    (hE : b = want → EvC P e o.op f args)
    (h : ∀ x w', (b = want → R x w') → Below w.heap.size w w' → OPS P N .plain ops K rest (upd e d (gv b want (val x))) w') : OPS P N .plain ops K (o :: rest) e w :=
  ⟨fun a h1 h2 h3 => by
    have hy := yielded_of (a := a) hj (h1 ▸ hb)
    simp only
    unfold wpList
    by_cases hw : b = want
    · subst hw
      have hwt : Region.wanted o (yielded ops a.tmps) = true := by simp [Region.wanted, hg, hy]
      rw [if_pos hwt]
      refine .inl ?_
      unfold Oper.wp
      have hr := (hE rfl).run w o rfl
      rw [← h1, ← eval_eq] at hr
      rw [hr]
      refine (hC rfl).mono fun e' w' ⟨x, he, hR, hb2⟩ => ?_
      subst he
      have hn := (h x w' (fun _ => hR) hb2).run (a.put (some d) (gv b b (val x))) (by rw [envOf_put _ h2 hN, h1]) (by rw [size_put]; exact h2) (by rw [defers_put]; exact h3)
      have hgv : gv b b (val x) = val x := by simp [gv]
      rw [hgv] at hn
      rw [hd]
      exact hn
    · have hwt : Region.wanted o (yielded ops a.tmps) = false := by simp [Region.wanted, hg, hy, hw]
      have hn := (h default w (fun hx => absurd hx hw) (Below.refl _ _)).run (a.put (some d) (gv b want (val default))) (by rw [envOf_put _ h2 hN, h1]) (by rw [size_put]; exact h2) (by rw [defers_put]; exact h3)
      have hgv : gv b want (val default) = undef := by simp [gv, hw]
      rw [hgv] at hn
      rw [hwt, hd]; exact hn⟩
end
section
variable {P : Program} {e : Env} {w : World} {ty t : TypeId} {x y : Operand}
theorem Ev.pickT {c : Operand} {b : Bool} {v : Value} (hc : ev e c = .bool b) (hb : b = true) (hx : ev e x = v) : Ev P e w ty (.pick c x y) v := by
  have := Ev.pick (P := P) (w := w) (ty := ty) (x := x) (y := y) hc
  rw [if_pos hb, hx] at this; exact this
theorem Ev.pickF {c : Operand} {b : Bool} {v : Value} (hc : ev e c = .bool b) (hb : b = false) (hy : ev e y = v) : Ev P e w ty (.pick c x y) v := by
  have := Ev.pick (P := P) (w := w) (ty := ty) (x := x) (y := y) hc
  rw [if_neg (by simp [hb]), hy] at this; exact this
theorem equalB {a b : Bool} (hU : ∀ w, (underlying t).run P w = .ok .bool w) (w : World) : (Op.equal t (.bool a) (.bool b)).run P w = .ok (a == b) w := by
  unfold Op.equal
  rw [show Op.maxDepth = 9999 + 1 from rfl, Op.equalIn]
  simp [hU]
theorem Ev.neqB {t' : TypeId} {a b : Bool} (hU : ∀ w, (underlying t).run P w = .ok .bool w) (hx : ev e x = .bool a) (hy : ev e y = .bool b) : Ev P e w ty (.binOp .neq t x y t') (.bool (a != b)) :=
  ⟨fun w' _ o ho _ => by unfold execOp; rw [ho]; simp [hx, hy, eqGuard, binOp, equalB hU, bne]⟩
theorem Ev.eqlB {t' : TypeId} {a b : Bool} (hU : ∀ w, (underlying t).run P w = .ok .bool w) (hx : ev e x = .bool a) (hy : ev e y = .bool b) : Ev P e w ty (.binOp .eql t x y t') (.bool (a == b)) :=
  ⟨fun w' _ o ho _ => by unfold execOp; rw [ho]; simp [hx, hy, eqGuard, binOp, equalB hU]⟩
/-- two structs of one type, compared -/
theorem Ev.eqlA {t' : TypeId} {vs us : Array Value} {q : Bool} (hg : P.eqGuardType P.depth t = false) (hr : ∀ w, (Op.equal t (.agg vs) (.agg us)).run P w = .ok q w) (hx : ev e x = .agg vs) (hy : ev e y = .agg us) : Ev P e w ty (.binOp .eql t x y t') (.bool q) :=
  ⟨fun w' _ o ho _ => by
    have hp : (program : Sem Program).run P w' = .ok P w' := rfl
    unfold execOp; rw [ho]; simp [hx, hy, eqGuard, binOp, hr, hp, hg]⟩
end
theorem zero_of {P : Program} {t : TypeId} {z : Value} (h : (P.info? t).map (·.zero) = some (some z)) : ∀ w, (zeroValue t).run P w = .ok z w := by
  intro w
  cases hi : P.info? t with
  | none => simp [hi] at h
  | some i =>
    simp [hi] at h
    have ht : (typeInfo t).run P w = .ok i w := by unfold typeInfo program; simp only [Sem.run_bind, Sem.run, Result.andThen_ok, hi, Sem.run_pure]
    unfold zeroValue; simp only [Sem.run_bind, ht, Result.andThen_ok, h, Sem.run_pure]
/-- a cell of a block of ints -/
theorem intCell {w0 w : World} {S : List Nat} {L : List Blk} (H : SH w0 S w L) (i : Nat) {g : Nat} {T : TypeId} {ms : List Int} (hi : L[i]? = some ⟨g, T, ms.map fun n => Value.int .i64 n⟩) (k : Nat) (hk : k < ms.length) : w.cell? ⟨g, k, none⟩ = some (.int .i64 (ms.getD k 0)) :=
  H.ldL i hi k (by simp [hk])
/-- a list that is being filled: the first j elements stand, the others are z -/
def fillL {α : Type} (l : List α) (z : α) (j : Nat) : List α := l.take j ++ List.replicate (l.length - j) z
theorem fillL_length {α : Type} (l : List α) (z : α) (j : Nat) (h : j ≤ l.length) : (fillL l z j).length = l.length := by simp [fillL]; omega
theorem fillL_zero {α : Type} (l : List α) (z : α) : fillL l z 0 = List.replicate l.length z := by simp [fillL]
theorem fillL_all {α : Type} (l : List α) (z : α) : fillL l z l.length = l := by simp [fillL]
theorem fillL_set {α : Type} (l : List α) (z : α) (j : Nat) (h : j < l.length) : (fillL l z j).set j (l[j]) = fillL l z (j + 1) := by
  have e : l.length - j = (l.length - (j + 1)) + 1 := by omega
  unfold fillL
  have e2 : j - (l.take j).length = 0 := by simp; omega
  rw [List.set_append_right _ _ (by simp; omega), e, List.replicate_succ, e2, List.set_cons_zero, ← List.take_append_getElem h, List.append_assoc]
  rfl
/-- how many are not set yet -/
def openN (l : List Bool) : Nat := (l.filter (fun b => !b)).length
theorem openN_set : ∀ (l : List Bool) (k : Nat), k < l.length → l.getD k false = false → openN (l.set k true) < openN l
  | [], _, h, _ => by simp at h
  | b :: l, 0, _, hb => by
    simp at hb; subst hb
    simp [openN]
  | b :: l, k + 1, h, hb => by
    have := openN_set l k (by simpa using h) (by simpa using hb)
    cases b <;> simpa [openN] using this
end Go.W
