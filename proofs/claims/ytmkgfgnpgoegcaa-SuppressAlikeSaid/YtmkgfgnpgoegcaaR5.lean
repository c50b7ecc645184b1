/-
  The law SuppressAlike: whatever the input, it returns true, and the arguments read as they did.
-/
import Derived.Test.YtmkgfgnpgoegcaaR0
import Derived.Test.YtmkgfgnpgoegcaaT30
set_option linter.all false
namespace Go.Proofs.Ytmkgfgnpgoegcaa
open Go Go.W Go.RowKit
open Go.ChangeShapes Go.WideShapes Go.ChangeAt

section
variable {H : Type} {enc : TypeId × Value → H} {w : World} {base : Nat} {spare : Nat → Bool} {held : Bool}
theorem rdU8 : Rd enc Try.prog w base spare held 5 (fun n : Int => [Value.int .u8 n]) (fun n => 0 ≤ n ∧ n ≤ 255) := (Rd.int Try.underlying5).mono fun _ h => bounds_u8 h
theorem rdMv5 : Rd enc Try.prog w base spare held 65 (fun p : Int × Int × Int × Int × Int × Unit => [Value.int .u8 p.1] ++ ([Value.int .u8 p.2.1] ++ ([Value.int .u8 p.2.2.1] ++ ([Value.int .u8 p.2.2.2.1] ++ ([Value.int .u8 p.2.2.2.2.1] ++ [])))))
    (fun p => (0 ≤ p.1 ∧ p.1 ≤ 255) ∧ (0 ≤ p.2.1 ∧ p.2.1 ≤ 255) ∧ (0 ≤ p.2.2.1 ∧ p.2.2.1 ≤ 255) ∧ (0 ≤ p.2.2.2.1 ∧ p.2.2.2.1 ≤ 255) ∧ (0 ≤ p.2.2.2.2.1 ∧ p.2.2.2.2.1 ≤ 255) ∧ True) := by
  refine Rd.struct (tot := 5) Try.underlying65 (by kernel_rfl) ?_
  exact RdF.cons (sz := 1) rdU8 rfl rfl (by kernel_rfl) (RdF.cons (sz := 1) rdU8 rfl rfl (by kernel_rfl) (RdF.cons (sz := 1) rdU8 rfl rfl (by kernel_rfl) (RdF.cons (sz := 1) rdU8 rfl rfl (by kernel_rfl) (RdF.cons (sz := 1) rdU8 rfl rfl (by kernel_rfl) RdF.nil))))
theorem rdMv : Rd enc Try.prog w base spare held 65 mvCells MvOk :=
  rdMv5.conv (fun p => ⟨p.1, p.2.1, p.2.2.1, p.2.2.2.1, p.2.2.2.2.1⟩) (fun _ => rfl) (fun _ h => ⟨h.1, h.2.1, h.2.2.1, h.2.2.2.1, h.2.2.2.2.1⟩)
theorem rdMvs : Rd enc Try.prog w base spare held 45 (slCells (α := Mv)) (SlG w 5 mvCells MvOk) := Rd.slice Try.underlying45 (by kernel_rfl) (by decide) rdMv
end

set_option maxRecDepth 100000 in
theorem suppressAlike_lifted (os : Os) (started : os.Started) (H : Type) (enc : TypeId × Value → H) :
    ReturnsInHanded {} Try.checked os 6 .any (Rows.suppressAlikeSpec.pre6 enc Try.prog Try.f6 Rows.suppressAlikeRow.domain false) (Rows.suppressAlikeSpec.post enc Try.prog Try.f6 false true false false) := by
  refine returnsInHanded_of_change (C := Try.checked) own started (by kernel_rfl) Try.func6
    (ChangeSpec.witness6 (enc := enc) (C := Try.checked) false ⟨#[], #[.agg #[.int .i64 0, .int .i64 0, .slice none 0 0], .slice none 0 0, .slice none 0 0], []⟩ 12 (by kernel_rfl) (by kernel_rfl) (by kernel_rfl) (by kernel_rfl)) ?_
  intro W base args ds gs before hval0 hW hcnd _
  have hval : ∀ (j : Nat) t v, Try.f6.params[j]? = some t → args[j]? = some v → Value.okWide Try.prog W .any base t v := hval0
  have hW' := hW
  obtain ⟨p, q, hA0, hV, rfl, hfz, hnd⟩ := hW
  have hA : DataW.TrodAll enc Try.prog W 0 (fun _ => true) true Try.f6.params.toList args.toList ds p := hA0
  rw [Try.params6] at hA hval
  obtain ⟨v0, vs0, d0, ds0, p0, q0, hargs, rfl, rfl, h0, r0⟩ := trodAll_cons hA
  obtain ⟨v1, vs1, d1, ds1, p1, q1, rfl, rfl, rfl, h1, r1⟩ := trodAll_cons r0
  obtain ⟨v2, vs2, d2, ds2, p2, q2, rfl, rfl, rfl, h2, r2⟩ := trodAll_cons r1
  obtain ⟨rfl, rfl, rfl⟩ := trodAll_nil r2
  obtain rfl : args = #[v0, v1, v2] := by cases args; simp_all
  obtain ⟨rfl, rfl⟩ := trodVars_none hV
  have k0 := h0
  have k1 := h1
  have k2 := h2
  have lt0 : ∀ x ∈ p0, x.block < W.heap.size := by obtain ⟨m, hm⟩ := k0; exact DataW.trod_lt m _ _ _ hm
  have lt1 : ∀ x ∈ p1, x.block < W.heap.size := by obtain ⟨m, hm⟩ := k1; exact DataW.trod_lt m _ _ _ hm
  have lt2 : ∀ x ∈ p2, x.block < W.heap.size := by obtain ⟨m, hm⟩ := k2; exact DataW.trod_lt m _ _ _ hm
  obtain ⟨cs0, rfl, _⟩ := okWide_struct Try.underlying24 (hval 0 24 v0 rfl rfl)
  obtain ⟨⟨r, c, ⟨A, cap, zs⟩, _⟩, rfl, ⟨_, _, g0, _⟩⟩ := rdTable.argN h0
  have e1 : v1.cells = #[v1] := by obtain ⟨_, _, _, rfl⟩ := okWide_slice Try.underlying22 (hval 1 22 v1 rfl rfl); rfl
  obtain ⟨⟨B, cap2, l⟩, rfl, g1⟩ := Rd.arg1 (f := fun s : SlA Int => .slice s.A s.l.length s.cap) rdInts e1 h1
  have e2 : v2.cells = #[v2] := by obtain ⟨_, _, _, rfl⟩ := okWide_slice Try.underlying45 (hval 2 45 v2 rfl rfl); rfl
  obtain ⟨⟨D, cap3, ms⟩, rfl, g2⟩ := Rd.arg1 (f := fun s : SlA Mv => .slice s.A s.l.length s.cap) rdMvs e2 h2
  clear hA0 hval0
  refine (lawAlike r c A B D zs l ms cap cap2 cap3 W g0.rows.ones g1.rows.ones g2.rows g2.all g0.len g1.len g2.len).mono fun e W' ⟨he, bel⟩ => ?_
  subst he
  exact ⟨_, rfl, _, _, _, [], _, [], hW', trodAll_mk1 (shut_bool Try.underlying4 _), (trodAll_cons_mk (Below.trod laidOut (by kernel_rfl) (of_decide_eq_true (by kernel_rfl)) k0 bel lt0) (trodAll_cons_mk (Below.trod laidOut (by kernel_rfl) (of_decide_eq_true (by kernel_rfl)) k1 bel lt1) (trodAll_cons_mk (Below.trod laidOut (by kernel_rfl) (of_decide_eq_true (by kernel_rfl)) k2 bel lt2) trodAll_mk0))), rfl, bel.frame _, fun h => by cases h⟩
theorem suppressAlike_proved : Rows.SuppressAlikeSaid :=
  OpenClaim.holds_of_wide 6 Try.f6 rfl rfl rfl rfl rfl rfl rfl ⟨rfl, rfl, rfl, rfl, rfl⟩ rfl rfl rfl rfl rfl (by kernel_rfl) Try.func6 (by kernel_rfl)
    (of_decide_eq_true (by kernel_rfl)) (by unfold Func.isWrapper; rw [if_neg (of_decide_eq_false (by kernel_rfl))]; exact ⟨rfl, rfl⟩)
    (fun os started H enc _ => suppressAlike_lifted os started H enc)
#print axioms suppressAlike_proved
end Go.Proofs.Ytmkgfgnpgoegcaa
