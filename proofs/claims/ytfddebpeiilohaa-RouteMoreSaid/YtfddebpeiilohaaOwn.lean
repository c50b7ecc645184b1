/-
  A slice that is nil, or fills a block of the call's own.
-/
import Derived.Test.YtfddebpeiilohaaPtr
set_option linter.all false
namespace Go.W
open Go.RowKit
def OwnL {α : Type} (T : TypeId) (enc : α → Value) (A : Option Addr) (l : List α) (L : List Blk) : Prop := (A = none ∧ l = [] ∧ L = []) ∨ ∃ g, A = some ⟨g, 0, none⟩ ∧ L = [⟨g, T, l.map enc⟩]
theorem OwnL.nil {α : Type} {T : TypeId} {enc : α → Value} : OwnL T enc none ([] : List α) [] := .inl ⟨rfl, rfl, rfl⟩
theorem OwnL.mk {α : Type} {T : TypeId} {enc : α → Value} (g : Nat) (l : List α) : OwnL T enc (some ⟨g, 0, none⟩) l [⟨g, T, l.map enc⟩] := .inr ⟨g, rfl, rfl⟩
theorem OwnL.rd {α : Type} {T : TypeId} {enc : α → Value} {A : Option Addr} {l : List α} {L L' : List Blk} {w0 w : World} {S : List Nat} (h : OwnL T enc A l L) (H : SH w0 S w L') (hs : ∀ b ∈ L, b ∈ L') : OnesAt enc w A l := by
  rcases h with ⟨rfl, rfl, rfl⟩ | ⟨g, rfl, rfl⟩
  · exact OnesAt.nil
  · intro k hk
    refine ⟨g, 0, rfl, ?_⟩
    obtain ⟨i, hi⟩ := List.getElem?_of_mem (hs ⟨g, T, l.map enc⟩ (by simp))
    rw [Nat.zero_add]
    refine H.ldL i hi k ?_
    show (l.map enc)[k]? = _
    rw [List.getElem?_map, List.getElem?_eq_getElem hk]; rfl
section
variable {P : Program} {N : Nat} {ops : Array Oper} {K : Env → World → Prop} {e : Env} {w w0 : World} {S : List Nat} {L : List Blk} {rest : List Oper} {o : Oper} {t : TypeId} {x y : Operand}
theorem append0_run {el sz n cap cx : Nat} {A Ax : Option Addr} {ty : TypeId} (hU : ∀ w, (underlying t).run P w = .ok (.slice el) w) (hs : ∀ w, (Go.sizeOf el).run P w = .ok sz w) (hle : n ≤ cap) (w : World) :
    (Builtin.append_ #[t, t] ty #[.slice A n cap, .slice Ax 0 cx]).run P w = .ok (.slice A n cap) w := by
  unfold Builtin.append_
  have hz : (loadCells · 0 : Addr → Sem (Array Value)) = fun _ => pure #[] := by funext a; rfl
  cases A <;> cases Ax <;> simp [hU, hs, Builtin.lenOf, Builtin.firstCells, hle, loadCells, loadCellsFrom, storeCells]
/-- as OPS.append; what is appended may also be nothing -/
theorem OPS.appendE {d el sz bt n m cap cx : Nat} {ty2 : Array TypeId} {A Ax : Option Addr} {zs xs news : List Value} {Lo R : List Blk} (hg : o.guard = none) (hd : o.dst = some d) (hN : Nat.blt d N = true)
    (hop : o.op = .call { callee := .builtin .append, args := #[x, y], argTypes := ty2 }) (hty : ty2 = #[t, t]) (hf : SlFact P t el sz bt zs)
    (hx : ev e x = .slice A n cap) (hy : ev e y = .slice Ax m cx) (hO : OwnS A cap n xs el sz Lo) (hl : news.length = m * sz) (hs : m = 0 ∨ ∃ b o, Ax = some ⟨b, o, none⟩ ∧ cellsAt w b o news) (h1 : (news.all (·.oneCell')) = true)
    (hbd : (n + m) * bt ≤ 140737488355328) (hbd2 : n + m ≤ maxLen) (H : SH w0 S w L) (hp : L.Perm (R ++ Lo))
    (h : ∀ A' cap' Lo' w', OwnS A' cap' (n + m) (xs ++ news) el sz Lo' → SH w0 S w' (R ++ Lo') → OPS P N .plain ops K rest (upd e d (.slice A' (n + m) cap')) w') : OPS P N .plain ops K (o :: rest) e w := by
  rcases hs with rfl | hs
  · have hn0 : news = [] := List.length_eq_zero_iff.1 (by rw [hl]; simp)
    subst hn0
    have hle : n ≤ cap := by rcases hO.form with ⟨_, q, _, _⟩ | ⟨_, _, _, _, q, _, _⟩ <;> omega
    have hsz : ∀ w, (Go.sizeOf el).run P w = .ok sz w := fun w => by
      obtain ⟨i, z, i1, i2, i3, i4, i5⟩ := hf.info
      have ht : (typeInfo el).run P w = .ok i w := by unfold typeInfo program; simp only [Sem.run_bind, Sem.run, Result.andThen_ok, i1, Sem.run_pure]
      unfold Go.sizeOf; simp only [Sem.run_bind, ht, Result.andThen_ok, i3, Sem.run_pure]
    refine OPS.act (v := .slice A n cap) (w' := w) hg hd hN ?_ (h A cap Lo w (by simpa using hO) (H.perm hp))
    unfold execOp; rw [hop, hty]
    simp only [resolve, Sem.run_bind, Sem.run_pure, Result.andThen_ok, invoke, builtin]
    have := append0_run (P := P) (t := t) (ty := o.type) (A := A) (Ax := Ax) (cx := cx) hf.undRun hsz hle w
    simp [hx, hy, this]
  · exact OPS.append hg hd hN hop hty hf hx hy hO hl hs h1 hbd hbd2 H hp h
end
end Go.W
