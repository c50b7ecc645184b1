/-
  Plain: the chapter's example.
-/
import Derived.Test.YtfddebpeiilohaaK9
set_option linter.all false
namespace Go.Proofs.Ytfddebpeiilohaa
open Go Go.W Go.RowKit

def xL : List Edg := [⟨0, 1, 10⟩, ⟨1, 0, 10⟩, ⟨1, 2, 10⟩, ⟨2, 1, 10⟩, ⟨2, 0, 30⟩]
def xT : List Truck := [⟨0, 10, 0, 1000⟩]
def xN : List Need := [⟨1, 5⟩, ⟨2, -3⟩]
theorem xNight : nightErr 3 xL xT xN 1 = 0 := by decide
theorem xRoad : RoadOk 3 xL := by
  obtain ⟨m, hm, hN⟩ := nightOk_of xNight
  obtain rfl : m = 3 := by omega
  exact hN.road
theorem xEdge {i u v : Nat} {w : Int} (h : EdgeAt xL i u v w) : (u = 0 ∧ v = 1 ∧ w = 10) ∨ (u = 1 ∧ v = 0 ∧ w = 10) ∨ (u = 1 ∧ v = 2 ∧ w = 10) ∨ (u = 2 ∧ v = 1 ∧ w = 10) ∨ (u = 2 ∧ v = 0 ∧ w = 30) := by
  obtain ⟨hi, h1, h2, h3⟩ := h
  have hi6 : i < 5 := hi
  match i, hi6, hi, h1, h2, h3 with
  | 0, _, _, h1, h2, h3 => have h1 : (0 : Int) = u := h1; have h2 : (1 : Int) = v := h2; have h3 : (10 : Int) = w := h3; omega
  | 1, _, _, h1, h2, h3 => have h1 : (1 : Int) = u := h1; have h2 : (0 : Int) = v := h2; have h3 : (10 : Int) = w := h3; omega
  | 2, _, _, h1, h2, h3 => have h1 : (1 : Int) = u := h1; have h2 : (2 : Int) = v := h2; have h3 : (10 : Int) = w := h3; omega
  | 3, _, _, h1, h2, h3 => have h1 : (2 : Int) = u := h1; have h2 : (1 : Int) = v := h2; have h3 : (10 : Int) = w := h3; omega
  | 4, _, _, h1, h2, h3 => have h1 : (2 : Int) = u := h1; have h2 : (0 : Int) = v := h2; have h3 : (30 : Int) = w := h3; omega
def tb3 (a b c : Int) (v : Nat) : Int := if v = 0 then a else if v = 1 then b else c
theorem xRD {s : Nat} {a b c : Int} (h0 : tb3 a b c s = 0) (ha : 0 ≤ a) (hb : 0 ≤ b) (hc : 0 ≤ c) (hclo : b ≤ a + 10 ∧ a ≤ b + 10 ∧ c ≤ b + 10 ∧ b ≤ c + 10 ∧ a ≤ c + 30)
    (hpar : ∀ v, v < 3 → v ≠ s → ∃ u i w, u < 3 ∧ EdgeAt xL i u v w ∧ tb3 a b c v = tb3 a b c u + w) : RD xL 3 s (fun _ => true) (tb3 a b c) where
  src := ⟨rfl, h0⟩
  clo i u v w hE _ _ _ := by
    refine ⟨rfl, ?_⟩
    rcases xEdge hE with ⟨rfl, rfl, rfl⟩ | ⟨rfl, rfl, rfl⟩ | ⟨rfl, rfl, rfl⟩ | ⟨rfl, rfl, rfl⟩ | ⟨rfl, rfl, rfl⟩ <;> simp [tb3] <;> omega
  par v hv _ hvs := by
    obtain ⟨u, i, w, h1, h2, h3⟩ := hpar v hv hvs
    exact ⟨u, i, w, h1, rfl, h2, h3⟩
  nn v _ _ := by unfold tb3; split <;> (try split) <;> omega
theorem xRD0 : RD xL 3 0 (fun _ => true) (tb3 0 10 20) := xRD rfl (by omega) (by omega) (by omega) (by omega) fun v hv hne => by
  rcases (show v = 1 ∨ v = 2 by omega) with rfl | rfl
  · exact ⟨0, 0, 10, by omega, ⟨by decide, rfl, rfl, rfl⟩, rfl⟩
  · exact ⟨1, 2, 10, by omega, ⟨by decide, rfl, rfl, rfl⟩, rfl⟩
theorem xRD1 : RD xL 3 1 (fun _ => true) (tb3 10 0 10) := xRD rfl (by omega) (by omega) (by omega) (by omega) fun v hv hne => by
  rcases (show v = 0 ∨ v = 2 by omega) with rfl | rfl
  · exact ⟨1, 1, 10, by omega, ⟨by decide, rfl, rfl, rfl⟩, rfl⟩
  · exact ⟨1, 2, 10, by omega, ⟨by decide, rfl, rfl, rfl⟩, rfl⟩
theorem xRD2 : RD xL 3 2 (fun _ => true) (tb3 20 10 0) := xRD rfl (by omega) (by omega) (by omega) (by omega) fun v hv hne => by
  rcases (show v = 0 ∨ v = 1 by omega) with rfl | rfl
  · exact ⟨1, 1, 10, by omega, ⟨by decide, rfl, rfl, rfl⟩, rfl⟩
  · exact ⟨2, 3, 10, by omega, ⟨by decide, rfl, rfl, rfl⟩, rfl⟩
theorem x00 : roadT 3 xL 0 0 = 0 := by rw [roadT_eq xRoad xRD0 (by omega)]; rfl
theorem x01 : roadT 3 xL 0 1 = 10 := by rw [roadT_eq xRoad xRD0 (by omega)]; rfl
theorem x02 : roadT 3 xL 0 2 = 20 := by rw [roadT_eq xRoad xRD0 (by omega)]; rfl
theorem x12 : roadT 3 xL 1 2 = 10 := by rw [roadT_eq xRoad xRD1 (by omega)]; rfl
theorem x20 : roadT 3 xL 2 0 = 20 := by rw [roadT_eq xRoad xRD2 (by omega)]; rfl
theorem xE01 : walkE 3 xL xT xN 1 0 [0, 1] = 0 := by
  rw [walkE, if_neg (by rw [xNight]; decide), if_neg (by decide)]
  simp [endT, goE, goT, goD, roadD, needAt, visitE, visitT, inB, startT, homeE, xN, xT, x01, x12, x20, absI]
theorem xE10 : walkE 3 xL xT xN 1 0 [1, 0] = 24 := by
  rw [walkE, if_neg (by rw [xNight]; decide), if_neg (by decide)]
  simp [goE, goD, roadD, needAt, visitE, inB, startT, xN, xT, x02]
theorem xE1 : walkE 3 xL xT xN 1 0 [1] = 24 := by
  rw [walkE, if_neg (by rw [xNight]; decide), if_neg (by decide)]
  simp [goE, goD, roadD, needAt, visitE, inB, startT, xN, xT, x02]
theorem xE : walkE 3 xL xT xN 1 0 [] = 0 := by
  rw [walkE, if_neg (by rw [xNight]; decide), if_neg (by decide)]
  simp [endT, goE, goT, goD, roadD, startT, homeE, xT, x00]
theorem perm1 {a : Int} {o : List Int} (h : o.Perm [a]) : o = [a] := List.perm_singleton.1 h
theorem perm2 {a b : Int} {o : List Int} (h : o.Perm [a, b]) : o = [a, b] ∨ o = [b, a] := by
  have hl := h.length_eq
  match o, hl, h with
  | [x, y], _, h =>
    have hx : x ∈ [a, b] := h.mem_iff.1 (by simp)
    simp at hx
    rcases hx with rfl | rfl
    · have := perm1 ((List.perm_cons x).1 h)
      simp at this; subst this; exact .inl rfl
    · have := perm1 ((List.perm_cons x).1 (h.trans (List.Perm.swap x a [])))
      simp at this; subst this; exact .inr rfl
theorem xAsk2 : askErr 3 xL xT xN 1 0 [1, 0] = 0 := by rw [askErr, if_neg (by rw [xNight]; decide)]; decide
theorem xAsk1 : askErr 3 xL xT xN 1 0 [1] = 0 := by rw [askErr, if_neg (by rw [xNight]; decide)]; decide
theorem xBest2 {er r0 : Int} {x : List Int} (h : BestAns 3 xL xT xN 1 0 [1, 0] er r0 x) : er = 0 ∧ r0 = 0 ∧ x = [0, 1] := by
  cases h with
  | no h => exact absurd xAsk2 h
  | empty _ hb => exact absurd ⟨List.Perm.swap 1 0 [], xE01⟩ (hb [0, 1])
  | ok _ x hb =>
    refine ⟨rfl, rfl, ?_⟩
    rcases perm2 hb.1.1 with h | h
    · have := hb.1.2; rw [h, xE10] at this; cases this
    · exact h
theorem xBest1 {er r0 : Int} {x : List Int} (h : BestAns 3 xL xT xN 1 0 [1] er r0 x) : er = 10 := by
  cases h with
  | no h => exact absurd xAsk1 h
  | empty _ hb => rfl
  | ok _ x hb => have := hb.1.2; rw [perm1 hb.1.1, xE1] at this; cases this
theorem xMost1 {er r0 : Int} {x : List Int} (h : MostAns 3 xL xT xN 1 0 [1] er r0 x) : er = 0 ∧ x = [] := by
  cases h with
  | no h => exact absurd xAsk1 h
  | ok _ s hb =>
    refine ⟨rfl, ?_⟩
    cases s with
    | none => rfl
    | some x =>
      obtain ⟨⟨h1, h2⟩, h3⟩ := hb.1
      cases x with
      | nil => rfl
      | cons a x =>
        exfalso
        have ha : a = 1 := by simpa using h2 a (by simp)
        have hx : x = [] := by
          cases x with
          | nil => rfl
          | cons b x =>
            have hb' : b = 1 := by simpa using h2 b (by simp)
            rw [ha, hb'] at h1; simp at h1
        rw [ha, hx, xE1] at h3; cases h3
theorem xMoved : movedE 3 xL xT xN 1 [0, 1] = 0 ∧ movedV 3 xL xT xN 1 [0, 1] = 8 := by
  have h : movedE 3 xL xT xN 1 [0, 1] = 0 := by rw [movedE, if_neg (by rw [xNight]; decide)]; decide
  exact ⟨h, by rw [movedV, if_pos h]; decide⟩
end Go.Proofs.Ytfddebpeiilohaa
