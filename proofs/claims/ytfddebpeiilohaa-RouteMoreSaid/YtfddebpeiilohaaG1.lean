/-
  Engine: guarded operations whose guard is known, in held regions and in whatever mode.
-/
import Derived.Scope
import Derived.Test.YtfddebpeiilohaaHeld
import Derived.Test.YtfddebpeiilohaaNest
import Derived.Test.YtfddebpeiilohaaPtr
set_option linter.all false
namespace Go.W
open Go.RowKit
section
variable {P : Program} {N : Nat} {m : Md} {ops : Array Oper} {K : Env → World → Prop} {e : Env} {w w0 : World} {S : List Nat} {L : List Blk} {fuel : Nat} {listed : Array Bool} {rest : List Oper} {o : Oper}
theorem WP.scope {c : Code} {Kn : Env → World → Prop} {Kx : Nat → Env → World → Prop} {Kr : Env → World → Prop} (h : WP P N c Kn Kx Kr e w) : WP P N (.scope c) Kn Kx Kr e w :=
  ⟨fun a h1 h2 h3 => wp_scope_straight (Code.wp_mono (fun ex a w h => by cases ex <;> simp only [post, Exit.noGoto] at h ⊢ <;> try exact h) (h.run a h1 h2 h3))⟩
/-- a guarded operation whose guard does not say 'want' -/
theorem OPS.gnoN {d : Option Nat} {j dj : Nat} {want : Bool} (hg : o.guard = some (j, want)) (hj : ops[j]?.bind (·.dst) = some dj) (hb : GB (e dj) want false) (hd : o.dst = d) (hN : (d.all fun d => Nat.blt d N) = true)
    (h : OPS P N m ops K rest (updo e d undef) w) : OPS P N m ops K (o :: rest) e w :=
  ⟨fun a h1 h2 h3 => by
    have hy := yielded_gb (a := a) (want := want) (q := false) hj (h1 ▸ hb)
    have hwt : Region.wanted o (yielded ops a.tmps) = false := by simp only [Region.wanted, hg]; exact hy
    have hn := h.run (a.put d undef) (by rw [envOf_puto d _ h2 hN, h1]) (by rw [size_put]; exact h2) (by rw [defers_put]; exact h3)
    cases m with
    | plain => simp only at hn ⊢; unfold wpList; rw [hwt, hd]; exact hn
    | still => simp only at hn ⊢; unfold wpStill; rw [hwt, hd]; exact hn
    | quiet => simp only at hn ⊢; unfold wpQuiet; rw [hwt, hd]; exact hn⟩
/-- a guarded operation of a held region, whose guard says 'want' -/
theorem OPH.takeY (i : Nat) {oi : Oper} {d j dj : Nat} {want : Bool} {v : Value} {f : Nat} (hi : ops[i]? = some oi) (hg : oi.guard = some (j, want)) (hj : ops[j]?.bind (·.dst) = some dj) (hb : e dj = .bool want) (hd : oi.dst = some d) (hN : Nat.blt d N = true) (hs : Region.noSelect ops = true) (hf : Region.free .any ops listed i = true)
    (hr : (Region.ready .any ops listed).contains i = true) (hfu : fuel = f + 1) (H : SH w0 S w L) (hE : ∀ w', SH w0 S w' L → Ev P e w' oi.type oi.op v)
    (h : OPH P N ops K w0 S L f (listed.setIfInBounds i true) (upd e d v) w) : OPH P N ops K w0 S L fuel listed e w :=
  ⟨fun a h1 h2 h3 => by
    subst hfu
    have hy := yielded_of (a := a) hj (h1 ▸ hb)
    have hwt : Region.wanted oi (yielded ops a.tmps) = true := by simp [Region.wanted, hg, hy]
    have hn := h.run (a.put (some d) v) (by rw [envOf_put v h2 hN, h1]) (by rw [size_put]; exact h2) (by rw [defers_put]; exact h3)
    refine wpAnyH_take hi hs hf hr (fun c a w hh => by simp only [post] at hh) (v := v) (.inl ⟨hwt, fun w' hw' => ?_⟩) H (by rw [hd]; exact hn)
    have := (hE w' hw').run w' (Below.refl _ _) oi rfl rfl
    rw [eval_eq, h1]; exact this⟩
end
section
variable {P : Program} {e : Env} {w : World} {ty t : TypeId} {x y : Operand}
/-- a slice compared with nil -/
theorem Ev.eqlSn {t' : TypeId} {el : TypeId} {a : Option Addr} {n c n' c' : Nat} (hU : ∀ w, (underlying t).run P w = .ok (.slice el) w) (hx : ev e x = .slice a n c) (hy : ev e y = .slice none n' c') : Ev P e w ty (.binOp .eql t x y t') (.bool a.isNone) :=
  ⟨fun w' _ o ho _ => by
    have hq : ∀ w, (Op.equal t (.slice a n c) (.slice none n' c')).run P w = .ok a.isNone w := by
      intro w
      unfold Op.equal
      rw [show Op.maxDepth = 9999 + 1 from rfl, Op.equalIn]
      cases a <;> simp [hU]
    unfold execOp; rw [ho]; simp [hx, hy, eqGuard, binOp, hq]⟩
end
end Go.W
