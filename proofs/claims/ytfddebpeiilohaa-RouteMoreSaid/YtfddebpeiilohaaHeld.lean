/-
  Regions whose order is open and that make memory in more than one place: quiet operations are taken first, over the others it is branched.
-/
import Derived.Test.YtfddebpeiilohaaMem
import Derived.OrdersHeld
set_option linter.all false
namespace Go.W
open Go.RowKit
structure OPH (P : Program) (N : Nat) (ops : Array Oper) (K : Env → World → Prop) (w0 : World) (S : List Nat) (L : List Blk) (fuel : Nat) (listed : Array Bool) (e : Env) (w : World) : Prop where
  run : ∀ a : Act, envOf a = e → a.tmps.size = N → a.defers = [] → wpAnyH P .any ops (post N K NoX NoR) (fun w' => SH w0 S w' L) fuel listed a w
section
variable {P : Program} {N : Nat} {ops : Array Oper} {K : Env → World → Prop} {Kn : Env → World → Prop} {Kx : Nat → Env → World → Prop} {Kr : Env → World → Prop} {e : Env} {w w0 : World} {S : List Nat} {L : List Blk} {fuel : Nat} {listed : Array Bool}
theorem WP.rheld {id : Nat} (hm : P.follows .mixedOrders = true) (H : SH w0 S w L) (h : ∀ w', Below w.heap.size w w' → SH w0 S w' L → OPH P N ops Kn w0 S L ops.size (Array.replicate ops.size false) e w') : WP P N (.region id ops true) Kn Kx Kr e w :=
  ⟨fun a h1 h2 h3 => Code.wp_mono post_up (wp_region_held (S := fun w' => SH w0 S w' L) hm ((h { w with drawn := w.drawn + 1 } ⟨rfl, rfl, rfl, Nat.le_refl _, fun _ _ => rfl⟩ H.drew).run a h1 h2 h3))⟩
theorem WP.rheldC {id : Nat} (M : List Nat) (I : Env → World → Prop) (hm : P.follows .mixedOrders = true) (H : SH w0 S w L)
    (h : ∀ w', Below w.heap.size w w' → SH w0 S w' L → OPH P N ops (fun e' w' => Agree M e' e ∧ I e' w') w0 S L ops.size (Array.replicate ops.size false) e w') (hk : ∀ u w', I u w' → Kn (W.mix M u e) w') : WP P N (.region id ops true) Kn Kx Kr e w :=
  WP.mono (WP.rheld (Kn := fun e' w' => Agree M e' e ∧ I e' w') (Kx := Kx) (Kr := Kr) hm H h) (fun e' w' hh => by rw [hh.1.eq]; exact hk e' w' hh.2) (fun _ _ _ h => h) (fun _ _ h => h)
theorem OPH.take (i : Nat) {oi : Oper} {d : Nat} {v : Value} {f : Nat} (hi : ops[i]? = some oi) (hg : oi.guard = none) (hd : oi.dst = some d) (hN : Nat.blt d N = true) (hs : Region.noSelect ops = true) (hf : Region.free .any ops listed i = true)
    (hr : (Region.ready .any ops listed).contains i = true) (hfu : fuel = f + 1) (H : SH w0 S w L) (hE : ∀ w', SH w0 S w' L → Ev P e w' oi.type oi.op v)
    (h : OPH P N ops K w0 S L f (listed.setIfInBounds i true) (upd e d v) w) : OPH P N ops K w0 S L fuel listed e w :=
  ⟨fun a h1 h2 h3 => by
    subst hfu
    have hn := h.run (a.put (some d) v) (by rw [envOf_put v h2 hN, h1]) (by rw [size_put]; exact h2) (by rw [defers_put]; exact h3)
    refine wpAnyH_take hi hs hf hr (fun c a w hh => by simp only [post] at hh) (v := v) (.inl ⟨wanted_none hg _, fun w' hw' => ?_⟩) H (by rw [hd]; exact hn)
    have := (hE w' hw').run w' (Below.refl _ _) oi rfl rfl
    rw [eval_eq, h1]; exact this⟩
theorem OPH.all (rs : List Nat) {f : Nat} (hr : Region.ready .any ops listed = rs) (hne : rs ≠ []) (hfu : fuel = f + 1)
    (h : ∀ i ∈ rs, ∃ o, ops[i]? = some o ∧ OPS P N .plain ops (fun e' w' => SH w0 S w' L ∧ OPH P N ops K w0 S L f (listed.setIfInBounds i true) e' w') [o] e w) : OPH P N ops K w0 S L fuel listed e w :=
  ⟨fun a h1 h2 h3 => by
    subst hfu
    refine wpAnyH_all hr hne fun i hi => ?_
    obtain ⟨o, ho, hO⟩ := h i hi
    have hl := hO.run a h1 h2 h3
    simp only at hl
    unfold wpList at hl
    unfold wpOp
    simp only [ho]
    split
    · rename_i hw
      rw [if_pos hw] at hl
      rcases hl with hl | ⟨_, _, _, hl⟩
      · refine .inl ?_
        unfold Oper.wp at hl ⊢
        generalize (execOp a.eval o).run P w = r at hl ⊢
        have key : ∀ a' w', wpList P ops (post N (fun e' w' => SH w0 S w' L ∧ OPH P N ops K w0 S L f (listed.setIfInBounds i true) e' w') NoX NoR) [] a' w' → SH w0 S w' L ∧ wpAnyH P .any ops (post N K NoX NoR) (fun w' => SH w0 S w' L) f (listed.setIfInBounds i true) a' w' := by
          intro a' w' hh
          have hh : a'.tmps.size = N ∧ a'.defers = [] ∧ _ := hh
          exact ⟨hh.2.2.1, hh.2.2.2.run a' rfl hh.1 hh.2.1⟩
        cases r with
        | ok n w' =>
          cases n <;> simp only [Oper.upon] at hl ⊢
          case value u => exact key _ _ hl
          case skip => exact key _ _ hl
          case defer d => exact key _ _ hl
          case enter g args =>
            refine Calls.mono hl ?_
            intro e' w'' he
            cases e' with
            | returned u => exact key _ _ he
            | panicked c => simp only [post] at he
            | outgrown => obtain ⟨_, _, he⟩ := he; simp only [post] at he
          case row row args => exact Rows.mono hl fun u w'' he => key _ _ he
        | halt x w' =>
          cases x <;> simp only [Oper.upon] at hl ⊢
          case panic u => simp only [post] at hl
      · simp only [post] at hl
    · rename_i hw
      rw [if_neg hw] at hl
      have hl : (a.put o.dst undef).tmps.size = N ∧ (a.put o.dst undef).defers = [] ∧ _ := hl
      exact ⟨hl.2.2.1, hl.2.2.2.run _ rfl hl.1 hl.2.1⟩⟩
theorem OPH.done (hr : Region.ready .any ops listed = []) (h : K e w) : OPH P N ops K w0 S L fuel listed e w := ⟨fun _ h1 h2 h3 => wpAnyH_done hr ⟨h2, h3, h1 ▸ h⟩ fuel⟩
end
end Go.W
