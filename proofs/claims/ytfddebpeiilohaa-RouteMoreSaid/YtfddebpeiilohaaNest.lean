/-
  Guards within guards.
-/
import Derived.Test.YtfddebpeiilohaaLists
set_option linter.all false
namespace Go.W
open Go.RowKit
/-- the guard's slot says 'want' just where q -/
structure GB (v : Value) (want q : Bool) : Prop where
  out : v = .bool want ↔ q = true
theorem GB.b {v : Value} {b want : Bool} (h : v = .bool b) : GB v want (b == want) := ⟨by subst h; cases b <;> cases want <;> simp⟩
theorem GB.g {v : Value} {b1 w1 b2 want : Bool} (h : v = gv b1 w1 (.bool b2)) : GB v want ((b1 == w1) && (b2 == want)) := ⟨by
  subst h
  by_cases h1 : b1 = w1
  · subst h1; cases b2 <;> cases want <;> simp [gv]
  · simp [gv, h1, undef]⟩
section
variable {P : Program} {N : Nat} {m : Md} {ops : Array Oper} {K : Env → World → Prop} {e : Env} {w : World} {rest : List Oper} {o : Oper}
theorem yielded_gb {a : Act} {j dj : Nat} {want q : Bool} (hj : ops[j]?.bind (·.dst) = some dj) (h : GB (envOf a dj) want q) : (yielded ops a.tmps j == some want) = q := by
  have h2 := h.out
  unfold yielded
  simp only [envOf, undef] at h2
  rw [hj]
  simp only [Option.bind_some]
  cases ht : a.tmps[dj]? with
  | none =>
    simp only [Array.getD_eq_getD_getElem?, ht, Option.getD_none] at h2
    cases q with
    | true => simp at h2
    | false => rfl
  | some u =>
    simp only [Array.getD_eq_getD_getElem?, ht, Option.getD_some] at h2
    cases u with
    | bool x =>
      cases q with
      | true =>
        have := h2.2 rfl
        cases this; simp
      | false =>
        have hne : x ≠ want := fun e => by subst e; have := h2.1 rfl; cases this
        simp [hne]
    | _ =>
      cases q with
      | true => have := h2.2 rfl; cases this
      | false => rfl
theorem OPS.gvalN {d j dj : Nat} {want q : Bool} {v : Value} (hg : o.guard = some (j, want)) (hj : ops[j]?.bind (·.dst) = some dj) (hb : GB (e dj) want q) (hd : o.dst = some d) (hN : Nat.blt d N = true)
    (hE : q = true → Ev P e w o.type o.op v) (h : OPS P N m ops K rest (upd e d (gv q true v)) w) : OPS P N m ops K (o :: rest) e w :=
  ⟨fun a h1 h2 h3 => by
    have hn := h.run (a.put (some d) (gv q true v)) (by rw [envOf_put _ h2 hN, h1]) (by rw [size_put]; exact h2) (by rw [defers_put]; exact h3)
    have hy := yielded_gb (a := a) (want := want) (q := q) hj (h1 ▸ hb)
    have hwt : Region.wanted o (yielded ops a.tmps) = q := by simp only [Region.wanted, hg]; exact hy
    cases q with
    | true =>
      have hr := fun w' hb => (hE rfl).run w' hb o rfl rfl
      rw [← h1, ← eval_eq] at hr
      have hgv : gv true true v = v := by simp [gv]
      rw [hgv] at hn
      cases m with
      | plain =>
        simp only at hn ⊢
        unfold wpList
        rw [if_pos hwt]
        refine .inl ?_
        unfold Oper.wp
        rw [hr w (Below.refl _ _)]
        simp only [Oper.upon, hd]
        exact hn
      | still =>
        simp only at hn ⊢
        unfold wpStill
        rw [if_pos hwt]
        unfold Oper.still
        rw [hr w (Below.refl _ _)]
        simp only [Oper.stillUpon, hd]
        exact ⟨trivial, hn⟩
      | quiet =>
        simp only at hn ⊢
        unfold wpQuiet
        rw [if_pos hwt]
        refine ⟨v, fun w' hb => ?_, by rw [hd]; exact hn⟩
        unfold Oper.quietAt
        rw [hr w' hb]
        exact ⟨rfl, rfl⟩
    | false =>
      have hgv : gv false true v = undef := by simp [gv]
      rw [hgv] at hn
      cases m with
      | plain => simp only at hn ⊢; unfold wpList; rw [hwt, hd]; exact hn
      | still => simp only at hn ⊢; unfold wpStill; rw [hwt, hd]; exact hn
      | quiet => simp only at hn ⊢; unfold wpQuiet; rw [hwt, hd]; exact hn⟩
/-- a guarded call whose result is not known beforehand -/
theorem OPS.gcallN {α : Type} [Inhabited α] (val : α → Value) (R : α → World → Prop) {d j dj : Nat} {want q : Bool} {f : FuncId} {args : List Value}
    (hC : q = true → Calls P f args.toArray w fun e' w' => ∃ x, e' = .returned (val x) ∧ R x w' ∧ Below w.heap.size w w') (hg : o.guard = some (j, want)) (hj : ops[j]?.bind (·.dst) = some dj) (hb : GB (e dj) want q) (hd : o.dst = some d) (hN : Nat.blt d N = true)
    (hE : q = true → EvC P e o.op f args)
    (h : ∀ x w', (q = true → R x w') → Below w.heap.size w w' → OPS P N .plain ops K rest (upd e d (gv q true (val x))) w') : OPS P N .plain ops K (o :: rest) e w :=
  ⟨fun a h1 h2 h3 => by
    have hy := yielded_gb (a := a) (want := want) (q := q) hj (h1 ▸ hb)
    have hwt : Region.wanted o (yielded ops a.tmps) = q := by simp only [Region.wanted, hg]; exact hy
    simp only
    unfold wpList
    cases q with
    | true =>
      rw [if_pos hwt]
      refine .inl ?_
      unfold Oper.wp
      have hr := (hE rfl).run w o rfl
      rw [← h1, ← eval_eq] at hr
      rw [hr]
      refine (hC rfl).mono fun e' w' ⟨x, he, hR, hb2⟩ => ?_
      subst he
      have hn := (h x w' (fun _ => hR) hb2).run (a.put (some d) (gv true true (val x))) (by rw [envOf_put _ h2 hN, h1]) (by rw [size_put]; exact h2) (by rw [defers_put]; exact h3)
      have hgv : gv true true (val x) = val x := by simp [gv]
      rw [hgv] at hn
      rw [hd]
      exact hn
    | false =>
      have hn := (h default w (fun hx => by cases hx) (Below.refl _ _)).run (a.put (some d) (gv false true (val default))) (by rw [envOf_put _ h2 hN, h1]) (by rw [size_put]; exact h2) (by rw [defers_put]; exact h3)
      have hgv : gv false true (val default) = undef := by simp [gv]
      rw [hgv] at hn
      rw [hwt, hd]; exact hn⟩
end
section
variable {P : Program} {e : Env} {w : World} {ty : TypeId} {x y c : Operand}
theorem Ev.pickAnd2 {q b u : Bool} (hg : q = true) (hc : ev e c = .bool b) (hx : ev e x = gv (q && (b == true)) true (.bool u)) (hy : ev e y = .bool false) : Ev P e w ty (.pick c x y) (.bool (b && u)) := by
  have := Ev.pick (P := P) (w := w) (ty := ty) (x := x) (y := y) hc
  cases b <;> simpa [hx, hy, gv, hg] using this
theorem Ev.pickOr2 {q b u : Bool} (hg : q = true) (hc : ev e c = .bool b) (hx : ev e x = .bool true) (hy : ev e y = gv (q && (b == false)) true (.bool u)) : Ev P e w ty (.pick c x y) (.bool (b || u)) := by
  have := Ev.pick (P := P) (w := w) (ty := ty) (x := x) (y := y) hc
  cases b <;> simpa [hx, hy, gv, hg] using this
end
section
variable {P : Program} {N : Nat} {Kn : Env → World → Prop} {Kx : Nat → Env → World → Prop} {Kr : Env → World → Prop} {e : Env} {w : World}
/-- what holds behind a piece of code, however it went -/
theorem WP.cut {c : Code} (M : List Nat) (I : Env → World → Prop) (h : WP P N c (fun e' w' => Agree M e' e ∧ I e' w') Kx Kr e w) (hk : ∀ u w', I u w' → Kn (W.mix M u e) w') : WP P N c Kn Kx Kr e w :=
  WP.mono h (fun e' w' hh => by rw [hh.1.eq]; exact hk e' w' hh.2) (fun _ _ _ h => h) (fun _ _ h => h)
end
theorem beqT {b want : Bool} (h : b = want) : (b == want) = true := by simp [h]
end Go.W
