/-
  Plain: the chapter's example.
-/
import Derived.Test.YtmkgfgnpgoegcaaM10
set_option linter.all false
namespace Go.Proofs.Ytmkgfgnpgoegcaa
open Go Go.W Go.RowKit

def exZ : List Int := [2, 30, 40, 50]
def allT : List Bool := [true, true, true, true]
theorem exOk : TblOk 2 2 exZ := tblOk_of (by decide) (by decide)
theorem exSh : Shape 2 4 (zF exZ) := exOk.shape
def tab4 (a b c d : Int) : Nat → Int := fun k => match k with | 0 => a | 1 => b | 2 => c | _ => d
theorem exOut (P u : Nat → Int) : Out 2 4 P u = u 0 * (P 0 - P 8) + u 1 * (P 0 - P 9) + u 2 * (P 1 - P 8) + u 3 * (P 1 - P 9) := by
  simp [Out, sumN]
theorem exZF : zF exZ 0 = 2 ∧ zF exZ 1 = 30 ∧ zF exZ 2 = 40 ∧ zF exZ 3 = 50 := ⟨rfl, rfl, rfl, rfl⟩
theorem exSums {h : Nat → Bool} {u : Nat → Int} (a : Alike 2 4 (zF exZ) h u) : u 0 + u 1 = 32 ∧ u 2 + u 3 = 90 ∧ u 0 + u 2 = 42 ∧ u 1 + u 3 = 80 := by
  have h0 := a.out (fun x => if x = 0 then 1 else 0)
  have h1 := a.out (fun x => if x = 1 then 1 else 0)
  have h2 := a.out (fun x => if x = 8 then 1 else 0)
  have h3 := a.out (fun x => if x = 9 then 1 else 0)
  rw [exOut, exOut] at h0 h1 h2 h3
  obtain ⟨e0, e1, e2, e3⟩ := exZF
  rw [e0, e1, e2, e3] at h0 h1 h2 h3
  simp at h0 h1 h2 h3
  omega
theorem exAlike (h : Nat → Bool) (d : Int) (h1 : -2 ≤ d) (h2 : d ≤ 30) (hh : ∀ k, k < 4 → h k = false → d = 0) : Alike 2 4 (zF exZ) h (tab4 (2 + d) (30 - d) (40 - d) (50 + d)) := by
  refine ⟨fun k hk => ?_, fun k hk hf => ?_, fun P => ?_⟩
  · match k, hk with
    | 0, _ => show 0 ≤ 2 + d; omega
    | 1, _ => show 0 ≤ 30 - d; omega
    | 2, _ => show 0 ≤ 40 - d; omega
    | 3, _ => show 0 ≤ 50 + d; omega
  · have := hh k hk hf
    subst this
    match k, hk with
    | 0, _ => rfl
    | 1, _ => rfl
    | 2, _ => rfl
    | 3, _ => rfl
  · rw [exOut, exOut]
    obtain ⟨e0, e1, e2, e3⟩ := exZF
    rw [e0, e1, e2, e3]
    show (2 + d) * (P 0 - P 8) + (30 - d) * (P 0 - P 9) + (40 - d) * (P 1 - P 8) + (50 + d) * (P 1 - P 9) = _
    simp only [Int.add_mul, Int.sub_mul, Int.mul_sub]
    omega
/-- all four cells are hidden: each can move by 32 -/
theorem exAll : ∀ k, k < 4 → ∃ lo, Exact 2 4 (zF exZ) (hF allT) k lo (lo + 32) ∧ (k = 0 → lo = 0) := by
  have hh : ∀ d : Int, ∀ k, k < 4 → hF allT k = false → d = 0 := fun d k hk hf => by
    match k, hk with
    | 0, _ => cases hf
    | 1, _ => cases hf
    | 2, _ => cases hf
    | 3, _ => cases hf
  have a := exAlike (hF allT) (-2) (by omega) (by omega) (hh _)
  have b := exAlike (hF allT) 30 (by omega) (by omega) (hh _)
  intro k hk
  match k, hk with
  | 0, _ => exact ⟨0, exact_of exSh (by omega) a rfl b rfl fun v av => by have := exSums av; have := av.pos 0 (by omega); have := av.pos 1 (by omega); omega, fun _ => rfl⟩
  | 1, _ => exact ⟨0, exact_of exSh (by omega) b rfl a rfl fun v av => by have := exSums av; have := av.pos 0 (by omega); have := av.pos 1 (by omega); omega, fun h => by omega⟩
  | 2, _ => exact ⟨10, exact_of exSh (by omega) b rfl a rfl fun v av => by have := exSums av; have := av.pos 0 (by omega); have := av.pos 1 (by omega); omega, fun h => by omega⟩
  | 3, _ => exact ⟨48, exact_of exSh (by omega) a rfl b rfl fun v av => by have := exSums av; have := av.pos 0 (by omega); have := av.pos 1 (by omega); omega, fun h => by omega⟩
/-- cell 3 is not hidden: no cell can move -/
theorem exFix (h : Nat → Bool) (k0 : Nat) (hk0 : k0 < 4) (hf : h k0 = false) : Exact 2 4 (zF exZ) h 0 2 2 :=
  exact_of exSh (by omega) (Alike.refl exSh.pos) rfl (Alike.refl exSh.pos) rfl fun v av => by
    have h1 := exSums av
    have h2 := av.same k0 hk0 hf
    obtain ⟨e0, e1, e2, e3⟩ := exZF
    match k0, hk0 with
    | 0, _ => omega
    | 1, _ => omega
    | 2, _ => omega
    | 3, _ => omega
theorem exRange {lo hi er : Int} (h : RangeRet 2 2 exZ allT 0 lo hi er) : er = 0 ∧ lo = 0 ∧ hi = 32 := by
  have he : er = 0 := h.1
  obtain ⟨hT, hh, k, hk, hk2, hS⟩ := h.2.2 he
  obtain rfl : k = 0 := by omega
  obtain ⟨lo', e, h0⟩ := exAll 0 (by omega)
  have := (hS.x hT hk2).inj hT ⟨2, rfl, e⟩
  have := h0 rfl
  omega
theorem exRange2 {lo hi er : Int} (h : RangeRet 2 2 exZ [true, true, false, false] 0 lo hi er) : er = 0 ∧ lo = 2 ∧ hi = 2 := by
  have he : er = 0 := h.1
  obtain ⟨hT, hh, k, hk, hk2, hS⟩ := h.2.2 he
  obtain rfl : k = 0 := by omega
  have := (hS.x hT hk2).inj hT ⟨2, rfl, exFix _ 3 (by omega) rfl⟩
  omega
theorem exRange3 {lo hi er : Int} (h : RangeRet 2 2 exZ [true, true, false, false] 3 lo hi er) : er = 0 ∧ lo = 50 ∧ hi = 50 := by
  have he : er = 0 := h.1
  obtain ⟨hT, hh, k, hk, hk2, hS⟩ := h.2.2 he
  obtain rfl : k = 3 := by omega
  have h2 := hS.2
  rw [if_pos (show [true, true, false, false].getD 3 false = false from rfl)] at h2
  exact ⟨he, h2.1, h2.2⟩
theorem exU {w : Int} (hw : 0 < w) (hid : List Bool) (k0 : Nat) (hk0 : k0 < 4) (h0 : hid.getD 0 false = true) (hf : hid.getD k0 false = false) (hl : 0 < hid.length) : UX 2 exZ w hid 0 :=
  .inr ⟨0, rfl, hl, ⟨h0, 2, 2, ⟨2, rfl, exFix _ k0 hk0 hf⟩, by omega⟩, fun j hj => absurd hj (by omega)⟩
theorem exHideG {w : Int} (hw : 0 < w) {out : List Bool} {er : Int} (hlast : HideG (UX 2 exZ w) 2 allT out er) : HideG (UX 2 exZ w) 2 [true, false, false, false] out er := by
  refine .step 0 1 (by decide) (exU hw _ 3 (by omega) rfl rfl (by decide)) (.inr ⟨0, 1, rfl, by decide, by decide, by unfold Free; decide, fun k' h => ?_, fun j' h => absurd h (by omega)⟩) ?_
  · obtain rfl : k' = 0 := by omega
    unfold Free; decide
  refine .step 0 2 (by decide) (exU hw _ 3 (by omega) rfl rfl (by decide)) (.inr ⟨1, 2, rfl, by decide, by decide, by unfold Free; decide, fun k' h => ?_, fun j' h => ?_⟩) ?_
  · have : k' = 0 ∨ k' = 1 := by omega
    rcases this with rfl | rfl <;> (unfold Free; decide)
  · obtain rfl : j' = 0 := by omega
    intro k hk
    have hk : k < 4 := hk
    match k, hk with
    | 0, _ => unfold Free; decide
    | 1, _ => unfold Free; decide
    | 2, _ => unfold Free; decide
    | 3, _ => unfold Free; decide
  refine .step 0 3 (by decide) (exU hw _ 3 (by omega) rfl rfl (by decide)) (.inr ⟨2, 3, rfl, by decide, by decide, by unfold Free; decide, fun k' h => ?_, fun j' h => ?_⟩) ?_
  · have : k' = 0 ∨ k' = 1 ∨ k' = 2 := by omega
    rcases this with rfl | rfl | rfl <;> (unfold Free; decide)
  · intro k hk
    have hk : k < 4 := hk
    have hj : j' = 0 ∨ j' = 1 := by omega
    rcases hj with rfl | rfl
    · match k, hk with
      | 0, _ => unfold Free; decide
      | 1, _ => unfold Free; decide
      | 2, _ => unfold Free; decide
      | 3, _ => unfold Free; decide
    · match k, hk with
      | 0, _ => unfold Free; decide
      | 1, _ => unfold Free; decide
      | 2, _ => unfold Free; decide
      | 3, _ => unfold Free; decide
  exact hlast
theorem exWide {w : Int} (hw : w ≤ 32) : UX 2 exZ w allT (-1) := .inl ⟨rfl, fun k hk => by
  obtain ⟨lo, e, _⟩ := exAll k hk
  exact .inr ⟨lo, lo + 32, ⟨2, rfl, e⟩, by omega⟩⟩
theorem exNarrow {w : Int} (hw : 32 < w) : UX 2 exZ w allT 0 := by
  obtain ⟨lo, e, _⟩ := exAll 0 (by omega)
  exact .inr ⟨0, rfl, by decide, ⟨rfl, lo, lo + 32, ⟨2, rfl, e⟩, by omega⟩, fun j hj => absurd hj (by omega)⟩
theorem exHide {hid : List Bool} {er : Int} (h : HideRet 2 2 exZ 5 3 hid er) : hid = allT ∧ er = 0 := by
  rcases h with ⟨h0, _⟩ | ⟨_, hT, hR⟩
  · exact absurd (by decide) h0
  · exact (hR.x hT rfl).inj hT (exHideG (by omega) (.done (exWide (by omega))))
theorem exHide2 {hid : List Bool} {er : Int} (h : HideRet 2 2 exZ 5 33 hid er) : er = 10 := by
  rcases h with ⟨h0, _⟩ | ⟨_, hT, hR⟩
  · exact absurd (by decide) h0
  · refine ((hR.x hT rfl).inj hT (exHideG (by omega) (.empty 0 (by decide) (exNarrow (by omega)) (.inl ⟨rfl, fun j hj k hk => ?_⟩)))).2
    intro hf
    have hk : k < 4 := hk
    have h1 := hf.1
    match k, hk with
    | 0, _ => cases h1
    | 1, _ => cases h1
    | 2, _ => cases h1
    | 3, _ => cases h1
theorem exSafe {b : Bool} (h : SafeRet 2 2 exZ allT 32 b) : b = true := by
  rcases h with ⟨h0, _⟩ | ⟨_, hT, hh, x, hx, rfl⟩
  · exact absurd (by decide) h0
  · rw [(hx.x hT hh).inj hT (exWide (by omega))]; rfl
theorem exSafe2 {b : Bool} (h : SafeRet 2 2 exZ allT 33 b) : b = false := by
  rcases h with ⟨h0, _⟩ | ⟨_, hT, hh, x, hx, rfl⟩
  · exact absurd (by decide) h0
  · rw [(hx.x hT hh).inj hT (exNarrow (by omega))]; rfl
end Go.Proofs.Ytmkgfgnpgoegcaa
