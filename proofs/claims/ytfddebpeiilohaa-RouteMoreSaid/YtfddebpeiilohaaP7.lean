/-
  Walk: the law RouteBoth.
-/
import Derived.Test.YtfddebpeiilohaaP6
set_option linter.all false
namespace Go.Proofs.Ytfddebpeiilohaa
open Go Go.W Go.RowKit

section
variable {n : Int} {l : List Edg} {ts : List Truck} {ns : List Need} {hd rt : Int} {rn : List Int}
/-- a best route for all is that which moves the most -/
theorem best_most {m : Nat} (hk : AskOk m l ts ns hd rt rn) {x y : List Int} (hx : IsBest (mvL ns) (secsD m l ts ns hd rt) (CandP m l ts ns hd rt rn) (some x)) (hy : IsBest (mvL ns) (secsD m l ts ns hd rt) (SubP m l ts ns hd rt rn) (some y)) : x = y := by
  have h : IsBest (mvL ns) (secsD m l ts ns hd rt) (SubP m l ts ns hd rt rn) (some x) := by
    refine ⟨⟨⟨hx.1.1.nodup_iff.2 hk.nd, fun i hi => hx.1.1.mem_iff.1 hi⟩, hx.1.2⟩, fun o ho hw => ?_⟩
    obtain ⟨h1, h2⟩ := mvL_part hk.nd ho.1.1 ho.1.2 hk.pos
    have h3 := mvL_perm (ns := ns) hx.1.1
    by_cases hl : o.length < rn.length
    · have h4 := h2 hl
      rcases hw with hw | ⟨hw, _⟩ <;> omega
    · have h5 : o.length = rn.length := by
        obtain ⟨s, _, hp⟩ := part_of hk.nd ho.1.1 ho.1.2
        have := (pickS_sub rn s).length_le
        rw [← hp.length_eq] at this; omega
      exact hx.2 o ⟨sub_full hk.nd ho.1.1 ho.1.2 h5, ho.2⟩ hw
  have := h.unique hy
  cases this; rfl
theorem BestAns.perm {rn' : List Int} (hp : rn.Perm rn') {er r0 er' r0' : Int} {x x' : List Int} (h : BestAns n l ts ns hd rt rn er r0 x) (h' : BestAns n l ts ns hd rt rn' er' r0' x') : er = er' ∧ r0 = r0' ∧ x = x' := by
  have ha := askErr_perm (n := n) (l := l) (ts := ts) (ns := ns) (hd := hd) (rt := rt) hp
  have hc : ∀ o, CandP n l ts ns hd rt rn' o ↔ CandP n l ts ns hd rt rn o := fun o => by
    unfold CandP
    exact ⟨fun h => ⟨h.1.trans hp.symm, h.2⟩, fun h => ⟨h.1.trans hp, h.2⟩⟩
  cases h with
  | no h =>
    cases h' with
    | no h' => exact ⟨ha, rfl, rfl⟩
    | empty h' => exact absurd (ha.trans h') h
    | ok h' => exact absurd (ha.trans h') h
  | empty h hb =>
    cases h' with
    | no h' => exact absurd (ha.symm.trans h) h'
    | empty h' => exact ⟨rfl, rfl, rfl⟩
    | ok h' x' hb' => have := hb.unique (hb'.congr hc); cases this
  | ok h x hb =>
    cases h' with
    | no h' => exact absurd (ha.symm.trans h) h'
    | empty h' hb' => have := hb.unique (hb'.congr hc); cases this
    | ok h' x' hb' => have := hb.unique (hb'.congr hc); cases this; exact ⟨rfl, rfl, rfl⟩
theorem MostAns.perm {rn' : List Int} (hp : rn.Perm rn') {er r0 er' r0' : Int} {x x' : List Int} (h : MostAns n l ts ns hd rt rn er r0 x) (h' : MostAns n l ts ns hd rt rn' er' r0' x') : er = er' ∧ r0 = r0' ∧ x = x' := by
  have ha := askErr_perm (n := n) (l := l) (ts := ts) (ns := ns) (hd := hd) (rt := rt) hp
  have hc : ∀ o, SubP n l ts ns hd rt rn' o ↔ SubP n l ts ns hd rt rn o := fun o => by
    unfold SubP
    constructor
    · rintro ⟨⟨h1, h2⟩, h3⟩; exact ⟨⟨h1, fun i hi => hp.mem_iff.2 (h2 i hi)⟩, h3⟩
    · rintro ⟨⟨h1, h2⟩, h3⟩; exact ⟨⟨h1, fun i hi => hp.mem_iff.1 (h2 i hi)⟩, h3⟩
  cases h with
  | no h =>
    cases h' with
    | no h' => exact ⟨ha, rfl, rfl⟩
    | ok h' => exact absurd (ha.trans h') h
  | ok h s hb =>
    cases h' with
    | no h' => exact absurd (ha.symm.trans h) h'
    | ok h' s' hb' => rw [hb.unique (hb'.congr hc)]; exact ⟨rfl, rfl, rfl⟩
theorem both_ok {er r0 r1 : Int} {x y : List Int} (hA : BestAns n l ts ns hd rt rn er r0 x) (hM : MostAns n l ts ns hd rt rn 0 r1 y) : (er = 0 → r0 = r1 ∧ x = y) ∧ (er ≠ 0 → er = 10 ∧ y.length ≠ rn.length) := by
  obtain ⟨h0, hr1, hb⟩ := hM.good
  obtain ⟨m, rfl, hk⟩ := askOk_of h0
  constructor
  · rintro rfl
    obtain ⟨_, hr0, hb'⟩ := hA.good
    exact ⟨hr0.trans hr1.symm, best_most hk hb' hb⟩
  · intro he
    cases hA with
    | no h => exact absurd h0 h
    | empty h hb' => exact ⟨rfl, fun hl => hb' y ⟨sub_full hk.nd hb.1.1.1 hb.1.1.2 hl, hb.1.2⟩⟩
    | ok => exact absurd rfl he
theorem MostAns.len {er r0 : Int} {x : List Int} (h : MostAns n l ts ns hd rt rn er r0 x) : x.length ≤ 6 := by
  by_cases he : er = 0
  · subst he
    obtain ⟨h0, _, hb⟩ := h.good
    obtain ⟨m, rfl, hk⟩ := askOk_of h0
    obtain ⟨s, _, hp⟩ := part_of hk.nd hb.1.1.1 hb.1.1.2
    have := (pickS_sub rn s).length_le
    have := hk.len
    rw [hp.length_eq]; omega
  · rw [(h.bad he).1]; simp
theorem BestAns.len {er r0 : Int} {x : List Int} (h : BestAns n l ts ns hd rt rn er r0 x) : x.length ≤ 6 := by
  cases h with
  | no => simp
  | empty => simp
  | ok h x hb =>
    obtain ⟨m, rfl, hk⟩ := askOk_of h
    rw [hb.1.1.length_eq]; exact hk.len
theorem BestAns.no' {er r0 : Int} {x : List Int} (h : BestAns n l ts ns hd rt rn er r0 x) (h0 : askErr n l ts ns hd rt rn ≠ 0) : er = askErr n l ts ns hd rt rn := by
  cases h with
  | no => rfl
  | empty h => exact absurd h h0
  | ok h => exact absurd h h0
end
end Go.Proofs.Ytfddebpeiilohaa
