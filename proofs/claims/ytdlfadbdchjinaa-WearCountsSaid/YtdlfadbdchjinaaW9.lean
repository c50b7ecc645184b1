/-
  Walks: slices.Grow of nothing, slices.Concat of two.
-/
import Derived.Test.YtdlfadbdchjinaaW8
import Derived.Lib.AppendZeros
set_option linter.all false
namespace Go.W
open Go.RowKit
section
variable {P : Program} {N : Nat} {ops : Array Oper} {K : Env → World → Prop} {e : Env} {w w0 : World} {S : List Nat} {L : List Blk} {rest : List Oper} {o : Oper} {t tn kn : TypeId} {x y : Operand}
theorem Ev.cap {ty el n cap : Nat} {A : Option Addr} (hU : ∀ w, (underlying t).run P w = .ok (.slice el) w) (hx : ev e x = .slice A n cap) :
    Ev P e w ty (.call { callee := .builtin .cap, args := #[x], argTypes := #[t] }) (.int .i64 cap) :=
  ⟨fun w' _ o ho _ => by
    unfold execOp; rw [ho]
    simp [resolve, invoke, builtin, Builtin.cap_, hx, hU, goInt]⟩
/-- append(nil, make(.., n)...) -/
theorem OPS.appendZ {d el sz bt n : Nat} {kk : IntKind} {k1 : IntKind} {ty2 : Array TypeId} {zs : List Value} (hg : o.guard = none) (hd : o.dst = some d) (hN : Nat.blt d N = true)
    (hop : o.op = .call { callee := .builtin .append, args := #[x, y], argTypes := ty2 }) (hty : ty2 = #[t, tn]) (hf : SlFact P t el sz bt zs) (htn : P.underlying tn = some (.int k1)) (hx : ev e x = .slice none 0 0) (hy : ev e y = .int kk (n : Int)) (h0 : 0 < n) (hb : n * bt ≤ 140737488355328) (hm : n ≤ maxLen) (H : SH w0 S w L)
    (h : ∀ g cap cs w', n ≤ cap → cap ≤ maxLen → cs.length = cap * sz → SH w0 S w' (⟨g, el, cs⟩ :: L) → OPS P N .plain ops K rest (upd e d (.slice (some ⟨g, 0, none⟩) n cap)) w') : OPS P N .plain ops K (o :: rest) e w := by
  obtain ⟨i, z, i1, i2, i3, i4, i5⟩ := hf.info
  have hpos := hf.pos
  have hlen := hf.len
  have hr := Lib.run_append_nil_zeros (P := P) w t tn o.type el i z kk k1 hf.und htn i1 i2 n h0 (by omega) (by unfold maxLen at hm; omega) (by rw [i4]; omega)
  have hc := grownCap_ge w n 0 el
  have hcells : ∀ m, Builtin.zeroCells z.cells m = (mkL m zs).toArray := fun m => by
    unfold Builtin.zeroCells
    rw [i5, List.size_toArray]
    exact mkCells m (by omega)
  rw [hcells, hcells] at hr
  have hH := SH.alloc H.drew el (mkL n zs ++ mkL (grownCap w n 0 el - n) zs)
  refine OPS.act (v := .slice (some ⟨w.heap.size, 0, none⟩) n (grownCap w n 0 el)) hg hd hN ?_ (h _ (grownCap w n 0 el) _ _ hc (grownCap_le_maxLen w n 0 el hm) ?_ hH)
  · unfold execOp; rw [hop, hty]
    simp only [resolve, Sem.run_bind, Sem.run_pure, Result.andThen_ok, invoke, builtin]
    simp [hx, hy, hr]
  · rw [List.length_append, mkL_length, mkL_length, ← Nat.add_mul, hlen]; congr 1; omega
end
end Go.W
namespace Go.Proofs.Ytdlfadbdchjinaa
open Go Go.W Go.RowKit

theorem growNil (n : Nat) (w0 : World) (hn : n ≤ 1000) :
    Calls Try.prog 35 #[.slice none 0 0, I n] w0 fun e w' => ∃ (S : Option Addr) (c : Nat) (L : List Blk), e = .returned (.slice S 0 c) ∧ OwnS S c 0 [] 3 1 L ∧ SH w0 [] w' L := by
  have H := SH.refl w0
  refine Calls.ofWP Try.func35 rfl Try.results35 Try.ntmps35 rfl ?_
  refine WP.seq ?_
  refine WP.region ?_
  refine OPS.val rfl rfl rfl (Ev.asS rfl) ?_
  refine OPS.nil ?_
  refine WP.seq ?_
  refine WP.seq ?_
  refine WP.region ?_
  refine OPS.val rfl rfl rfl (Ev.mvI rfl) ?_
  refine OPS.val rfl rfl rfl (Ev.lss rfl rfl) ?_
  refine OPS.nil ?_
  refine WP.cond rfl (fun hc1 => ?_) (fun hc1 => ?_)
  · simp at hc1; omega
  refine WP.skip ?_
  refine WP.seq ?_
  refine WP.seq ?_
  refine WP.region ?_
  refine OPS.val rfl rfl rfl (Ev.mvI rfl) ?_
  refine OPS.val rfl rfl rfl (Ev.mvS rfl) ?_
  refine OPS.val rfl rfl rfl (Ev.cap (el_run rfl) rfl) ?_
  refine OPS.val rfl rfl rfl (Ev.mvS rfl) ?_
  refine OPS.val rfl rfl rfl (Ev.len (el_run rfl) rfl) ?_
  refine OPS.val rfl rfl rfl (Ev.sub rfl rfl (by unfold fits; omega)) ?_
  refine OPS.val rfl rfl rfl (Ev.sub rfl rfl (by unfold fits; omega)) ?_
  refine OPS.val rfl rfl rfl (Ev.asI rfl) ?_
  refine OPS.nil ?_
  refine WP.seq ?_
  refine WP.region ?_
  refine OPS.val rfl rfl rfl (Ev.mvI rfl) ?_
  refine OPS.val rfl rfl rfl (Ev.gtr rfl rfl) ?_
  refine OPS.nil ?_
  refine WP.cond rfl (fun hc4 => ?_) (fun hc4 => ?_)
  · have hn0 : 0 < n := by simp at hc4; omega
    rw [show (n : Int) - (((0 : Nat) : Int) - ((0 : Nat) : Int)) = n by omega]
    refine WP.region ?_
    refine OPS.val rfl rfl rfl (Ev.mvS rfl) ?_
    refine OPS.val rfl rfl rfl (Ev.mvS rfl) ?_
    refine OPS.val rfl rfl rfl (Ev.cap (el_run rfl) rfl) ?_
    refine OPS.val rfl rfl rfl (Ev.sliceTo (j := 0) (el_run rfl) ⟨1, size_run rfl⟩ rfl rfl rfl (by omega)) ?_
    refine OPS.val rfl rfl rfl (Ev.mvI rfl) ?_
    refine OPS.appendZ (n := n) rfl rfl rfl rfl rfl (sl_run rfl) Try.underlying3 rfl rfl hn0 (by omega) (by unfold maxLen; omega) H ?_
    clear H; intro g22 c22 cs22 w hc22 hm22 hl22 H
    refine OPS.val rfl rfl rfl (Ev.mvS rfl) ?_
    refine OPS.val rfl rfl rfl (Ev.len (el_run rfl) rfl) ?_
    refine OPS.val rfl rfl rfl (Ev.sliceTo (j := 0) (el_run rfl) ⟨1, size_run rfl⟩ rfl rfl rfl (by omega)) ?_
    refine OPS.val rfl rfl rfl (Ev.asS rfl) ?_
    refine OPS.nil ?_
    refine WP.seq ?_
    refine WP.region ?_
    refine OPS.val rfl rfl rfl (Ev.mvS rfl) ?_
    refine OPS.val rfl rfl rfl (Ev.asS rfl) ?_
    refine OPS.nil ?_
    refine WP.ret ⟨_, rfl, ?_⟩
    first
      | exact ⟨some ⟨g22, 0, none⟩, c22, [⟨g22, 3, cs22⟩], rfl, ⟨rfl, .inr ⟨g22, cs22, rfl, rfl, by omega, hm22, by rw [List.nil_append, hl22]⟩⟩, H⟩
      | exact ⟨none, 0, [], rfl, OwnS.nil, H⟩
  refine WP.skip ?_
  refine WP.seq ?_
  refine WP.region ?_
  refine OPS.val rfl rfl rfl (Ev.mvS rfl) ?_
  refine OPS.val rfl rfl rfl (Ev.asS rfl) ?_
  refine OPS.nil ?_
  refine WP.ret ⟨_, rfl, ?_⟩
  first
    | exact ⟨some ⟨g22, 0, none⟩, c22, [⟨g22, 3, cs22⟩], rfl, ⟨rfl, .inr ⟨g22, cs22, rfl, rfl, by omega, hm22, by rw [List.nil_append, hl22]⟩⟩, H⟩
    | exact ⟨none, 0, [], rfl, OwnS.nil, H⟩
end Go.Proofs.Ytdlfadbdchjinaa
