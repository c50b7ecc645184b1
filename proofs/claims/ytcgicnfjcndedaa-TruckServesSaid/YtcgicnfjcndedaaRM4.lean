/-
  Plain: the chapter's example.
-/
import Derived.Test.YtcgicnfjcndedaaT22
set_option linter.all false
namespace Go.Proofs.Ytcgicnfjcndedaa
open Go Go.W Go.RowKit

def exL : List Edg := [⟨0, 1, 100⟩, ⟨1, 0, 100⟩, ⟨1, 2, 60⟩, ⟨2, 1, 60⟩, ⟨0, 2, 200⟩, ⟨2, 0, 200⟩]
def exT : List Truck := [⟨0, 10, 1000, 2000⟩]
def exN : List Need := [⟨1, 8⟩, ⟨2, -5⟩]
def exV : List Vis := [⟨0, 1100, 1180, 8⟩, ⟨1, 1240, 1290, 3⟩]
theorem exNight : nightErr 3 exL exT exN 10 = 0 := by decide
theorem exRoad : RoadOk 3 exL := by
  obtain ⟨m, hm, hN⟩ := nightOk_of exNight
  obtain rfl : m = 3 := by omega
  exact hN.road
theorem exEdge {i u v : Nat} {w : Int} (h : EdgeAt exL i u v w) : (u = 0 ∧ v = 1 ∧ w = 100) ∨ (u = 1 ∧ v = 0 ∧ w = 100) ∨ (u = 1 ∧ v = 2 ∧ w = 60) ∨ (u = 2 ∧ v = 1 ∧ w = 60) ∨ (u = 0 ∧ v = 2 ∧ w = 200) ∨ (u = 2 ∧ v = 0 ∧ w = 200) := by
  obtain ⟨hi, h1, h2, h3⟩ := h
  have hi6 : i < 6 := hi
  match i, hi6, hi, h1, h2, h3 with
  | 0, _, _, h1, h2, h3 => have h1 : (0 : Int) = u := h1; have h2 : (1 : Int) = v := h2; have h3 : (100 : Int) = w := h3; omega
  | 1, _, _, h1, h2, h3 => have h1 : (1 : Int) = u := h1; have h2 : (0 : Int) = v := h2; have h3 : (100 : Int) = w := h3; omega
  | 2, _, _, h1, h2, h3 => have h1 : (1 : Int) = u := h1; have h2 : (2 : Int) = v := h2; have h3 : (60 : Int) = w := h3; omega
  | 3, _, _, h1, h2, h3 => have h1 : (2 : Int) = u := h1; have h2 : (1 : Int) = v := h2; have h3 : (60 : Int) = w := h3; omega
  | 4, _, _, h1, h2, h3 => have h1 : (0 : Int) = u := h1; have h2 : (2 : Int) = v := h2; have h3 : (200 : Int) = w := h3; omega
  | 5, _, _, h1, h2, h3 => have h1 : (2 : Int) = u := h1; have h2 : (0 : Int) = v := h2; have h3 : (200 : Int) = w := h3; omega
def tab3 (a b c : Int) (v : Nat) : Int := if v = 0 then a else if v = 1 then b else c
theorem exRD {s : Nat} {a b c : Int} (h0 : tab3 a b c s = 0) (ha : 0 ≤ a) (hb : 0 ≤ b) (hc : 0 ≤ c) (hclo : b ≤ a + 100 ∧ a ≤ b + 100 ∧ c ≤ b + 60 ∧ b ≤ c + 60 ∧ c ≤ a + 200 ∧ a ≤ c + 200)
    (hpar : ∀ v, v < 3 → v ≠ s → ∃ u i w, u < 3 ∧ EdgeAt exL i u v w ∧ tab3 a b c v = tab3 a b c u + w) : RD exL 3 s (fun _ => true) (tab3 a b c) where
  src := ⟨rfl, h0⟩
  clo i u v w hE _ _ _ := by
    refine ⟨rfl, ?_⟩
    rcases exEdge hE with ⟨rfl, rfl, rfl⟩ | ⟨rfl, rfl, rfl⟩ | ⟨rfl, rfl, rfl⟩ | ⟨rfl, rfl, rfl⟩ | ⟨rfl, rfl, rfl⟩ | ⟨rfl, rfl, rfl⟩ <;> simp [tab3] <;> omega
  par v hv _ hvs := by
    obtain ⟨u, i, w, h1, h2, h3⟩ := hpar v hv hvs
    exact ⟨u, i, w, h1, rfl, h2, h3⟩
  nn v _ _ := by unfold tab3; split <;> (try split) <;> omega
theorem exRD0 : RD exL 3 0 (fun _ => true) (tab3 0 100 160) := exRD rfl (by omega) (by omega) (by omega) (by omega) fun v hv hne => by
  rcases (show v = 1 ∨ v = 2 by omega) with rfl | rfl
  · exact ⟨0, 0, 100, by omega, ⟨by decide, rfl, rfl, rfl⟩, rfl⟩
  · exact ⟨1, 2, 60, by omega, ⟨by decide, rfl, rfl, rfl⟩, rfl⟩
theorem exRD1 : RD exL 3 1 (fun _ => true) (tab3 100 0 60) := exRD rfl (by omega) (by omega) (by omega) (by omega) fun v hv hne => by
  rcases (show v = 0 ∨ v = 2 by omega) with rfl | rfl
  · exact ⟨1, 1, 100, by omega, ⟨by decide, rfl, rfl, rfl⟩, rfl⟩
  · exact ⟨1, 2, 60, by omega, ⟨by decide, rfl, rfl, rfl⟩, rfl⟩
theorem exRD2 : RD exL 3 2 (fun _ => true) (tab3 160 60 0) := exRD rfl (by omega) (by omega) (by omega) (by omega) fun v hv hne => by
  rcases (show v = 0 ∨ v = 1 by omega) with rfl | rfl
  · exact ⟨1, 1, 100, by omega, ⟨by decide, rfl, rfl, rfl⟩, rfl⟩
  · exact ⟨2, 3, 60, by omega, ⟨by decide, rfl, rfl, rfl⟩, rfl⟩
theorem ex01 : roadT 3 exL 0 1 = 100 := by rw [roadT_eq exRoad exRD0 (by omega)]; rfl
theorem ex02 : roadT 3 exL 0 2 = 160 := by rw [roadT_eq exRoad exRD0 (by omega)]; rfl
theorem ex10 : roadT 3 exL 1 0 = 100 := by rw [roadT_eq exRoad exRD1 (by omega)]; rfl
theorem ex12 : roadT 3 exL 1 2 = 60 := by rw [roadT_eq exRoad exRD1 (by omega)]; rfl
theorem ex20 : roadT 3 exL 2 0 = 160 := by rw [roadT_eq exRoad exRD2 (by omega)]; rfl
theorem exE1 : walkE 3 exL exT exN 10 0 [0, 1] = 0 := by
  rw [walkE, if_neg (by rw [exNight]; decide), if_neg (by decide)]
  simp [endT, goE, goT, goD, roadD, needAt, visitE, visitT, inB, startT, homeE, exN, exT, ex01, ex12, ex20, absI]
theorem exO1 : outV 3 exL exT exN 10 0 [0, 1] = exV := by
  rw [outV, if_pos exE1]
  simp [walkV, goV, goD, roadD, needAt, visitV, visitT, startT, exN, exT, ex01, ex12, absI, exV]
theorem exB1 : outB' 3 exL exT exN 10 0 [0, 1] = 1480 := by
  rw [outB', if_pos exE1]
  simp [walkT, endT, goT, goD, roadD, needAt, visitT, startT, homeT, exN, exT, ex01, ex12, ex20, absI]
theorem exD1 : outD 3 exL exT exN 10 0 [0, 1] = 320 := by
  rw [outD, if_pos exE1]
  simp [walkT, endT, goT, goD, roadD, needAt, visitT, startT, homeT, exN, exT, ex01, ex12, ex20, absI]
theorem exE2 : walkE 3 exL exT exN 10 0 [1, 0] = 24 := by
  rw [walkE, if_neg (by rw [exNight]; decide), if_neg (by decide)]
  simp [goE, goD, roadD, needAt, visitE, inB, startT, exN, exT, ex02]
theorem exE3 : walkE 3 exL exT exN 10 0 [0, 0] = 6 := by
  rw [walkE, if_neg (by rw [exNight]; decide), if_pos (by decide)]
  decide
theorem exE4 : walkE 3 exL exT exN 10 0 [0] = 0 := by
  rw [walkE, if_neg (by rw [exNight]; decide), if_neg (by decide)]
  simp [endT, goE, goT, goD, roadD, needAt, visitE, visitT, inB, startT, homeE, exN, exT, ex01, ex10, absI]
theorem exP1 (A : Option Addr) : planErr 3 exL exT exN 10 [⟨0, ⟨A, 1, [0]⟩⟩] [1] = 0 := by
  rw [planErr, if_neg (by rw [exNight]; decide), if_neg (by simp [routesE, exE4])]
  exact (by decide : (if (twiceB [(0 : Int)] || twiceB [0, 1]) = true then (6 : Int) else if goodAll 2 [0, 1] = true then (if sortedB [1] = true then 0 else 9) else 7) = 0)
theorem exP2 : planErr 3 exL exT exN 10 [] [1] = 7 := by
  rw [planErr, if_neg (by rw [exNight]; decide), if_neg (by simp [routesE])]
  decide
end Go.Proofs.Ytcgicnfjcndedaa
