/-
  The rules for single operations: a region is a list of operations in one of three modes (plain; still: the world stays; quiet: the world may get new blocks).
-/
import Derived.Test.YtfddebpeiilohaaEng
set_option linter.all false
namespace Go.W
open Go.RowKit

def updo (e : Env) : Option Nat → Value → Env
  | some d, v => upd e d v
  | none, _ => e
theorem envOf_puto {a : Act} {N : Nat} (d : Option Nat) (v : Value) (hs : a.tmps.size = N) (hd : (d.all fun d => Nat.blt d N) = true) : envOf (a.put d v) = updo (envOf a) d v := by
  cases d with
  | none => rfl
  | some d => exact envOf_put v hs (by simpa using hd)

inductive Md where
  | plain | still | quiet

structure OPS (P : Program) (N : Nat) (m : Md) (ops : Array Oper) (K : Env → World → Prop) (l : List Oper) (e : Env) (w : World) : Prop where
  run : ∀ a : Act, envOf a = e → a.tmps.size = N → a.defers = [] → match m with
    | .plain => wpList P ops (post N K NoX NoR) l a w
    | .still => wpStill P ops w (fun a' => a'.tmps.size = N ∧ a'.defers = [] ∧ K (envOf a') w) l a
    | .quiet => wpQuiet P ops (fun w' => Below w.heap.size w w') (fun a' => a'.tmps.size = N ∧ a'.defers = [] ∧ ∀ w', Below w.heap.size w w' → K (envOf a') w') l a

section
variable {P : Program} {N : Nat} {m : Md} {ops : Array Oper} {K : Env → World → Prop} {Kn : Env → World → Prop} {Kx : Nat → Env → World → Prop} {Kr : Env → World → Prop} {e : Env} {w : World} {rest : List Oper} {o : Oper}
theorem OPS.nil (h : K e w) : OPS P N .plain ops K [] e w := ⟨fun _ h1 h2 h3 => wpList_nil ⟨h2, h3, h1 ▸ h⟩⟩
theorem OPS.nil_s (h : K e w) : OPS P N .still ops K [] e w := ⟨fun _ h1 h2 h3 => wpStill_nil ⟨h2, h3, h1 ▸ h⟩⟩
theorem OPS.nil_q (h : ∀ w', Below w.heap.size w w' → K e w') : OPS P N .quiet ops K [] e w := ⟨fun _ h1 h2 h3 => wpQuiet_nil ⟨h2, h3, fun w' hb => h1 ▸ h w' hb⟩⟩
theorem post_up : ∀ ex a w, post N Kn NoX NoR ex a w → post N Kn Kx Kr ex a w := by
  intro ex a w h
  cases ex <;> simp only [post, NoX, NoR] at h ⊢ <;> try exact h
  · exact h.2.2.elim
  · exact h.2.2.elim
theorem wpStill_mono_post {Q Q' : Act → Prop} (hq : ∀ a, Q a → Q' a) : ∀ (l : List Oper) (a : Act), wpStill P ops w Q l a → wpStill P ops w Q' l a
  | [], _, h => hq _ h
  | o :: rest, a, h => by
    unfold wpStill at h ⊢
    split
    · rename_i hw; rw [if_pos hw] at h; exact Oper.still_mono (wpStill_mono_post hq rest) h
    · rename_i hw; rw [if_neg hw] at h; exact wpStill_mono_post hq rest _ h
theorem wpQuiet_mono_post {C : World → Prop} {Q Q' : Act → Prop} (hq : ∀ a, Q a → Q' a) : ∀ (l : List Oper) (a : Act), wpQuiet P ops C Q l a → wpQuiet P ops C Q' l a
  | [], _, h => hq _ h
  | o :: rest, a, h => by
    unfold wpQuiet at h ⊢
    split
    · rename_i hw; rw [if_pos hw] at h; exact Oper.quiet_mono (wpQuiet_mono_post hq rest) h
    · rename_i hw; rw [if_neg hw] at h; exact wpQuiet_mono_post hq rest _ h
theorem WP.region {id : Nat} {l : List Oper} (h : OPS P N .plain l.toArray Kn l e w) : WP P N (.region id l.toArray false) Kn Kx Kr e w :=
  ⟨fun a h1 h2 h3 => Code.wp_mono post_up (wp_region_lit (h.run a h1 h2 h3))⟩
theorem WP.region_still {id : Nat} {l : List Oper} (hm : P.follows .mixedOrders = true) (hB : Region.lexB .any l.toArray = true) (h : OPS P N .still l.toArray Kn l e { w with drawn := w.drawn + 1 }) : WP P N (.region id l.toArray true) Kn Kx Kr e w :=
  ⟨fun a h1 h2 h3 => wp_region_still_lit hm hB (h.run a h1 h2 h3)⟩
theorem WP.region_quiet {id : Nat} {l : List Oper} (hm : P.follows .mixedOrders = true) (hB : Region.lexB .any l.toArray = true) (h : OPS P N .quiet l.toArray Kn l e { w with drawn := w.drawn + 1 }) : WP P N (.region id l.toArray true) Kn Kx Kr e w :=
  ⟨fun a h1 h2 h3 => wp_region_quiet (C := fun w' => Below w.heap.size { w with drawn := w.drawn + 1 } w') hm hB (Below.refl _ _) (by
    refine (wpQuiet_mono_post ?_) _ _ (by simpa using h.run a h1 h2 h3)
    intro a' hh w' hw'
    exact ⟨hh.1, hh.2.1, hh.2.2 w' hw'⟩)⟩
theorem WP.region_tail {id : Nat} {l : List Oper} (n : Nat) (hm : P.follows .mixedOrders = true) (hB : Region.lexTailB .any l.toArray n = true)
    (h : OPS P N .still l.toArray (fun e w => OPS P N .plain l.toArray Kn (l.drop n) e w) (l.take n) e { w with drawn := w.drawn + 1 }) : WP P N (.region id l.toArray true) Kn Kx Kr e w :=
  ⟨fun a h1 h2 h3 => Code.wp_mono post_up (wp_region_still_tail n hm hB (by
    refine wpStill_mono_post ?_ _ _ (h.run a h1 h2 h3)
    intro a' hh
    exact hh.2.2.run a' rfl hh.1 hh.2.1))⟩

theorem WP.rstill {w0 : World} {S : List Nat} {L : List Blk} {id : Nat} {l : List Oper} (hm : P.follows .mixedOrders = true) (hB : Region.lexB .any l.toArray = true) (H : SH w0 S w L) (h : ∀ w', Below w.heap.size w w' → SH w0 S w' L → OPS P N .still l.toArray Kn l e w') : WP P N (.region id l.toArray true) Kn Kx Kr e w :=
  WP.region_still hm hB (h _ ⟨rfl, rfl, rfl, Nat.le_refl _, fun _ _ => rfl⟩ H.drew)
theorem WP.rquiet {w0 : World} {S : List Nat} {L : List Blk} {id : Nat} {l : List Oper} (hm : P.follows .mixedOrders = true) (hB : Region.lexB .any l.toArray = true) (H : SH w0 S w L) (h : ∀ w', Below w.heap.size w w' → SH w0 S w' L → OPS P N .quiet l.toArray Kn l e w') : WP P N (.region id l.toArray true) Kn Kx Kr e w :=
  WP.region_quiet hm hB (h _ ⟨rfl, rfl, rfl, Nat.le_refl _, fun _ _ => rfl⟩ H.drew)
theorem WP.rtail {w0 : World} {S : List Nat} {L : List Blk} {id : Nat} {l : List Oper} (n : Nat) (hm : P.follows .mixedOrders = true) (hB : Region.lexTailB .any l.toArray n = true) (H : SH w0 S w L)
    (h : ∀ w', Below w.heap.size w w' → SH w0 S w' L → OPS P N .still l.toArray (fun e w => OPS P N .plain l.toArray Kn (l.drop n) e w) (l.take n) e w') : WP P N (.region id l.toArray true) Kn Kx Kr e w :=
  WP.region_tail n hm hB (h _ ⟨rfl, rfl, rfl, Nat.le_refl _, fun _ _ => rfl⟩ H.drew)
theorem OPS.nilq {w0 : World} {S : List Nat} {L : List Blk} (H : SH w0 S w L) (h : ∀ w', Below w.heap.size w w' → SH w0 S w' L → K e w') : OPS P N .quiet ops K [] e w := OPS.nil_q fun w' hb => h w' hb (H.toBelow hb)

/-- operation 'op' (of type ty) yields v in every world that keeps what w holds, and leaves that world -/
structure Ev (P : Program) (e : Env) (w : World) (ty : TypeId) (op : Op) (v : Value) : Prop where
  run : ∀ w', Below w.heap.size w w' → ∀ o : Oper, o.op = op → o.type = ty → (execOp (ev e) o).run P w' = .ok (.value v) w'
theorem wanted_none (hg : o.guard = none) (y : Nat → Option Bool) : Region.wanted o y = true := by simp [Region.wanted, hg]
theorem OPS.val {d : Nat} {v : Value} (hg : o.guard = none) (hd : o.dst = some d) (hN : Nat.blt d N = true) (hE : Ev P e w o.type o.op v) (h : OPS P N m ops K rest (upd e d v) w) : OPS P N m ops K (o :: rest) e w :=
  ⟨fun a h1 h2 h3 => by
    have hn := h.run (a.put (some d) v) (by rw [envOf_put v h2 hN, h1]) (by rw [size_put]; exact h2) (by rw [defers_put]; exact h3)
    have hr := fun w' hb => hE.run w' hb o rfl rfl
    rw [← h1, ← eval_eq] at hr
    cases m with
    | plain =>
      simp only at hn ⊢
      unfold wpList
      rw [if_pos (wanted_none hg _)]
      refine .inl ?_
      unfold Oper.wp
      rw [hr w (Below.refl _ _)]
      simp only [Oper.upon, hd]
      exact hn
    | still =>
      simp only at hn ⊢
      unfold wpStill
      rw [if_pos (wanted_none hg _)]
      unfold Oper.still
      rw [hr w (Below.refl _ _)]
      simp only [Oper.stillUpon, hd]
      exact ⟨trivial, hn⟩
    | quiet =>
      simp only at hn ⊢
      unfold wpQuiet
      rw [if_pos (wanted_none hg _)]
      refine ⟨v, fun w' hb => ?_, by rw [hd]; exact hn⟩
      unfold Oper.quietAt
      rw [hr w' hb]
      exact ⟨rfl, rfl⟩⟩
@[irreducible] def gv (b want : Bool) (v : Value) : Value := if (b == want) = true then v else undef
theorem yielded_of {a : Act} {j dj : Nat} {b : Bool} (hj : ops[j]?.bind (·.dst) = some dj) (hb : envOf a dj = .bool b) : yielded ops a.tmps j = some b := by
  unfold yielded
  simp only [envOf, undef] at hb
  rw [hj]
  simp only [Option.bind_some]
  cases ht : a.tmps[dj]? with
  | none => simp [ht] at hb
  | some u => simp [ht] at hb; subst hb; rfl
/-- a guarded operation -/
theorem OPS.gval {d j dj : Nat} {want b : Bool} {v : Value} (hg : o.guard = some (j, want)) (hj : ops[j]?.bind (·.dst) = some dj) (hb : e dj = .bool b) (hd : o.dst = some d) (hN : Nat.blt d N = true)
    (hE : b = want → Ev P e w o.type o.op v) (h : OPS P N m ops K rest (upd e d (gv b want v)) w) : OPS P N m ops K (o :: rest) e w :=
  ⟨fun a h1 h2 h3 => by
    have hn := h.run (a.put (some d) (gv b want v)) (by rw [envOf_put _ h2 hN, h1]) (by rw [size_put]; exact h2) (by rw [defers_put]; exact h3)
    have hy := yielded_of (a := a) hj (h1 ▸ hb)
    by_cases hw : b = want
    · subst hw
      have hr := fun w' hb => (hE rfl).run w' hb o rfl rfl
      rw [← h1, ← eval_eq] at hr
      have hwt : Region.wanted o (yielded ops a.tmps) = true := by simp [Region.wanted, hg, hy]
      have hgv : gv b b v = v := by simp [gv]
      rw [hgv] at hn
      cases m with
      | plain =>
        simp only at hn ⊢
        unfold wpList
        rw [if_pos hwt]
        refine .inl ?_
        unfold Oper.wp
        rw [hr w (Below.refl _ _)]
        simp only [Oper.upon, hd]
        exact hn
      | still =>
        simp only at hn ⊢
        unfold wpStill
        rw [if_pos hwt]
        unfold Oper.still
        rw [hr w (Below.refl _ _)]
        simp only [Oper.stillUpon, hd]
        exact ⟨trivial, hn⟩
      | quiet =>
        simp only at hn ⊢
        unfold wpQuiet
        rw [if_pos hwt]
        refine ⟨v, fun w' hb => ?_, by rw [hd]; exact hn⟩
        unfold Oper.quietAt
        rw [hr w' hb]
        exact ⟨rfl, rfl⟩
    · have hwt : Region.wanted o (yielded ops a.tmps) = false := by simp [Region.wanted, hg, hy, hw]
      have hgv : gv b want v = undef := by simp [gv, hw]
      rw [hgv] at hn
      cases m with
      | plain => simp only at hn ⊢; unfold wpList; rw [hwt, hd]; exact hn
      | still => simp only at hn ⊢; unfold wpStill; rw [hwt, hd]; exact hn
      | quiet => simp only at hn ⊢; unfold wpQuiet; rw [hwt, hd]; exact hn⟩

/-- the operation is a call of f at these arguments -/
structure EvC (P : Program) (e : Env) (op : Op) (f : FuncId) (args : List Value) : Prop where
  run : ∀ w (o : Oper), o.op = op → (execOp (ev e) o).run P w = .ok (.enter f args.toArray) w
/-- a call in a plain region -/
theorem OPS.call {d : Option Nat} {f : FuncId} {args : List Value} {R : Ending → World → Prop} (hg : o.guard = none) (hd : o.dst = d) (hN : (d.all fun d => Nat.blt d N) = true) (hE : EvC P e o.op f args) (hC : Calls P f args.toArray w R)
    (h : ∀ e' w', R e' w' → ∃ v, e' = .returned v ∧ OPS P N .plain ops K rest (updo e d v) w') : OPS P N .plain ops K (o :: rest) e w :=
  ⟨fun a h1 h2 h3 => by
    simp only
    unfold wpList
    rw [if_pos (wanted_none hg _)]
    refine .inl ?_
    unfold Oper.wp
    have hr := hE.run w o rfl
    rw [← h1, ← eval_eq] at hr
    rw [hr]
    refine hC.mono fun e' w' hR => ?_
    obtain ⟨v, rfl, hn⟩ := h e' w' hR
    have := hn.run (a.put d v) (by rw [envOf_puto d v h2 hN, h1]) (by rw [size_put]; exact h2) (by rw [defers_put]; exact h3)
    rw [hd]
    exact this⟩
/-- a call in a quiet region -/
theorem OPS.callq {d : Nat} {f : FuncId} {args : List Value} {v : Value} (hg : o.guard = none) (hd : o.dst = some d) (hN : Nat.blt d N = true) (hE : EvC P e o.op f args)
    (hC : ∀ w', Below w.heap.size w w' → Calls P f args.toArray w' fun e' w'' => e' = .returned v ∧ Below w'.heap.size w' w'')
    (h : OPS P N .quiet ops K rest (upd e d v) w) : OPS P N .quiet ops K (o :: rest) e w :=
  ⟨fun a h1 h2 h3 => by
    have hn := h.run (a.put (some d) v) (by rw [envOf_put v h2 hN, h1]) (by rw [size_put]; exact h2) (by rw [defers_put]; exact h3)
    simp only at hn ⊢
    unfold wpQuiet
    rw [if_pos (wanted_none hg _)]
    refine ⟨v, fun w' hb => ?_, by rw [hd]; exact hn⟩
    unfold Oper.quietAt
    have hr := hE.run w' o rfl
    rw [← h1, ← eval_eq] at hr
    rw [hr]
    exact ⟨rfl, (hC w' hb).mono fun e' w'' ⟨he, hb2⟩ => ⟨he, hb.trans (hb2.mono hb.size)⟩⟩⟩
/-- a guarded call in a quiet region -/
theorem OPS.gcallq {d j dj : Nat} {want b : Bool} {f : FuncId} {args : List Value} {v : Value} (hg : o.guard = some (j, want)) (hj : ops[j]?.bind (·.dst) = some dj) (hb : e dj = .bool b) (hd : o.dst = some d) (hN : Nat.blt d N = true) (hE : EvC P e o.op f args)
    (hC : b = want → ∀ w', Below w.heap.size w w' → Calls P f args.toArray w' fun e' w'' => e' = .returned v ∧ Below w'.heap.size w' w'')
    (h : OPS P N .quiet ops K rest (upd e d (gv b want v)) w) : OPS P N .quiet ops K (o :: rest) e w :=
  ⟨fun a h1 h2 h3 => by
    have hn := h.run (a.put (some d) (gv b want v)) (by rw [envOf_put _ h2 hN, h1]) (by rw [size_put]; exact h2) (by rw [defers_put]; exact h3)
    have hy := yielded_of (a := a) hj (h1 ▸ hb)
    simp only at hn ⊢
    unfold wpQuiet
    by_cases hw : b = want
    · subst hw
      have hwt : Region.wanted o (yielded ops a.tmps) = true := by simp [Region.wanted, hg, hy]
      have hgv : gv b b v = v := by simp [gv]
      rw [hgv] at hn
      rw [if_pos hwt]
      refine ⟨v, fun w' hb => ?_, by rw [hd]; exact hn⟩
      unfold Oper.quietAt
      have hr := hE.run w' o rfl
      rw [← h1, ← eval_eq] at hr
      rw [hr]
      exact ⟨rfl, (hC rfl w' hb).mono fun e' w'' ⟨he, hb2⟩ => ⟨he, hb.trans (hb2.mono hb.size)⟩⟩
    · have hwt : Region.wanted o (yielded ops a.tmps) = false := by simp [Region.wanted, hg, hy, hw]
      have hgv : gv b want v = undef := by simp [gv, hw]
      rw [hgv] at hn
      rw [hwt, hd]; exact hn⟩
/-- a guarded operation of a plain region whose guard says no -/
theorem OPS.gno {d : Option Nat} {j dj : Nat} {want b : Bool} (hg : o.guard = some (j, want)) (hj : ops[j]?.bind (·.dst) = some dj) (hb : e dj = .bool b) (hw : (b == want) = false) (hd : o.dst = d) (hN : (d.all fun d => Nat.blt d N) = true)
    (h : OPS P N .plain ops K rest (updo e d undef) w) : OPS P N .plain ops K (o :: rest) e w :=
  ⟨fun a h1 h2 h3 => by
    have hy := yielded_of (a := a) hj (h1 ▸ hb)
    have hwt : Region.wanted o (yielded ops a.tmps) = false := by simpa [Region.wanted, hg, hy] using hw
    simp only
    unfold wpList
    rw [hwt]
    have := h.run (a.put d undef) (by rw [envOf_puto d _ h2 hN, h1]) (by rw [size_put]; exact h2) (by rw [defers_put]; exact h3)
    rw [hd]
    exact this⟩
/-- a guarded operation whose guard says yes: as if it had none -/
theorem OPS.gyes {j dj : Nat} {want b : Bool} (hg : o.guard = some (j, want)) (hj : ops[j]?.bind (·.dst) = some dj) (hb : e dj = .bool b) (hw : (b == want) = true)
    (h : OPS P N .plain ops K ({ o with guard := none } :: rest) e w) : OPS P N .plain ops K (o :: rest) e w :=
  ⟨fun a h1 h2 h3 => by
    have hy := yielded_of (a := a) hj (h1 ▸ hb)
    have hwt : Region.wanted o (yielded ops a.tmps) = true := by simpa [Region.wanted, hg, hy] using hw
    have := h.run a h1 h2 h3
    simp only at this ⊢
    unfold wpList at this ⊢
    rw [if_pos (wanted_none rfl _)] at this
    rw [if_pos hwt]
    exact this⟩
/-- an operation that changes the world, in a plain region -/
theorem OPS.act {d : Nat} {v : Value} {w' : World} (hg : o.guard = none) (hd : o.dst = some d) (hN : Nat.blt d N = true) (hr : (execOp (ev e) o).run P w = .ok (.value v) w')
    (h : OPS P N .plain ops K rest (upd e d v) w') : OPS P N .plain ops K (o :: rest) e w :=
  ⟨fun a h1 h2 h3 => by
    have hn := h.run (a.put (some d) v) (by rw [envOf_put v h2 hN, h1]) (by rw [size_put]; exact h2) (by rw [defers_put]; exact h3)
    rw [← h1, ← eval_eq] at hr
    simp only at hn ⊢
    unfold wpList
    rw [if_pos (wanted_none hg _)]
    refine .inl ?_
    unfold Oper.wp
    rw [hr]
    simp only [Oper.upon, hd]
    exact hn⟩
/-- the same, of an operation that yields nothing -/
theorem OPS.actn {w' : World} (hg : o.guard = none) (hd : o.dst = none) (hr : (execOp (ev e) o).run P w = .ok .skip w')
    (h : OPS P N .plain ops K rest e w') : OPS P N .plain ops K (o :: rest) e w :=
  ⟨fun a h1 h2 h3 => by
    have hn := h.run a h1 h2 h3
    rw [← h1, ← eval_eq] at hr
    simp only at hn ⊢
    unfold wpList
    rw [if_pos (wanted_none hg _)]
    refine .inl ?_
    unfold Oper.wp
    rw [hr]
    simp only [Oper.upon, hd, Act.put]
    exact hn⟩
end
end Go.W
