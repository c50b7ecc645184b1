/-
  Plain: what Find finds is proved; the chapter's examples.
-/
import Derived.Test.YtgjfjbphngamgaaB6
set_option linter.all false
namespace Go.Proofs.Ytgjfjbphngamgaa
open Go Go.W Go.RowKit

theorem FindRet.proved {n : Int} {l : List Edg} {ts : List Truck} {ns : List Need} {hd s b : Int} {us vs : List Int} (h : FindRet n l ts ns hd s b us vs) (he : findErr n l ts ns hd = 0) : ProvedP n l ts ns hd s b us vs := by
  obtain ⟨m, T, rfl, hK, hS, h1, h2, h3⟩ := h.good he
  have hC : (movC ns).length = (colN ns).length := by simp [movC]
  have hD : (movD ns).length = (briN ns).length := by simp [movD]
  refine ⟨he, h2, ⟨?_, by rw [hS.ul, hC]⟩, ⟨?_, by rw [hS.vl, hD]⟩, by simpa using hS.feas, by rw [hS.val]; exact h1⟩
  · unfold rngB; rw [List.all_eq_true]
    intro x hx
    have := hS.ub x hx
    simp; omega
  · unfold rngB; rw [List.all_eq_true]
    intro x hx
    have := hS.vb x hx
    simp; omega
/-- no proved bound is greater -/
theorem divI_le {a b c : Int} (h : a ≤ b) (hc : 1 ≤ c) : divI a c ≤ divI b c := by
  unfold divI
  by_cases ha : a ≤ 0
  · rw [if_pos ha]
    split
    · exact Int.le_refl _
    · exact Int.ediv_nonneg (by omega) (by omega)
  · rw [if_neg ha, if_neg (by omega)]
    exact Int.ediv_le_ediv (by omega) (by omega)
theorem getD_nn {l : List Int} (h : rngB l = true) (j : Nat) : 0 ≤ l.getD j 0 := (rngB_at h j).1
theorem best_le {n : Int} {l : List Edg} {ts : List Truck} {ns : List Need} {hd s b s2 b2 : Int} {us vs us2 vs2 : List Int} (h : FindRet n l ts ns hd s b us vs) (hp : ProvedP n l ts ns hd s2 b2 us2 vs2) : s2 ≤ s := by
  obtain ⟨m, T, rfl, hK, hS, h1, h2, h3⟩ := h.good hp.err
  rw [h1, hp.secs]
  refine divI_le ?_ h3
  exact hS.max.2 _ _ (getD_nn hp.un.1) (by simpa using hp.feas)
/-! ### examples -/
def xbL : List Edg := [⟨0, 1, 100⟩, ⟨1, 2, 100⟩, ⟨2, 0, 100⟩]
def xbT : List Truck := [⟨0, 4, 0, 9000⟩]
def xb1 : List Need := [⟨1, 5⟩, ⟨0, -3⟩]
def xb2 : List Need := [⟨1, 5⟩, ⟨0, -6⟩]
def xb3 : List Need := [⟨1, 5⟩]
def xb4 : List Need := [⟨1, 5⟩, ⟨0, -3⟩, ⟨2, 2⟩]
theorem xbN1 : nightErr 3 xbL xbT xb1 0 = 0 := by decide
theorem xbN2 : nightErr 3 xbL xbT xb2 0 = 0 := by decide
theorem xbN3 : nightErr 3 xbL xbT xb3 0 = 0 := by decide
theorem xbN4 : nightErr 3 xbL xbT xb4 0 = 0 := by decide
theorem xbRoad : RoadOk 3 xbL := by
  obtain ⟨m, hm, hN⟩ := nightOk_of xbN1
  obtain rfl : m = 3 := by omega
  exact hN.road
theorem xbEdge {i u v : Nat} {w : Int} (h : EdgeAt xbL i u v w) : (u = 0 ∧ v = 1 ∧ w = 100) ∨ (u = 1 ∧ v = 2 ∧ w = 100) ∨ (u = 2 ∧ v = 0 ∧ w = 100) := by
  obtain ⟨hi, h1, h2, h3⟩ := h
  have hi6 : i < 3 := hi
  match i, hi6, hi, h1, h2, h3 with
  | 0, _, _, h1, h2, h3 => have h1 : (0 : Int) = u := h1; have h2 : (1 : Int) = v := h2; have h3 : (100 : Int) = w := h3; omega
  | 1, _, _, h1, h2, h3 => have h1 : (1 : Int) = u := h1; have h2 : (2 : Int) = v := h2; have h3 : (100 : Int) = w := h3; omega
  | 2, _, _, h1, h2, h3 => have h1 : (2 : Int) = u := h1; have h2 : (0 : Int) = v := h2; have h3 : (100 : Int) = w := h3; omega
theorem xbRD {s : Nat} {a b c : Int} (h0 : tab3 a b c s = 0) (ha : 0 ≤ a) (hb : 0 ≤ b) (hc : 0 ≤ c) (hclo : b ≤ a + 100 ∧ c ≤ b + 100 ∧ a ≤ c + 100)
    (hpar : ∀ v, v < 3 → v ≠ s → ∃ u i w, u < 3 ∧ EdgeAt xbL i u v w ∧ tab3 a b c v = tab3 a b c u + w) : RD xbL 3 s (fun _ => true) (tab3 a b c) where
  src := ⟨rfl, h0⟩
  clo i u v w hE _ _ _ := by
    refine ⟨rfl, ?_⟩
    rcases xbEdge hE with ⟨rfl, rfl, rfl⟩ | ⟨rfl, rfl, rfl⟩ | ⟨rfl, rfl, rfl⟩ <;> simp [tab3] <;> omega
  par v hv _ hvs := by
    obtain ⟨u, i, w, h1, h2, h3⟩ := hpar v hv hvs
    exact ⟨u, i, w, h1, rfl, h2, h3⟩
  nn v _ _ := by unfold tab3; split <;> (try split) <;> omega
theorem xbRD1 : RD xbL 3 1 (fun _ => true) (tab3 200 0 100) := xbRD rfl (by omega) (by omega) (by omega) (by omega) fun v hv hne => by
  rcases (show v = 0 ∨ v = 2 by omega) with rfl | rfl
  · exact ⟨2, 2, 100, by omega, ⟨by decide, rfl, rfl, rfl⟩, rfl⟩
  · exact ⟨1, 1, 100, by omega, ⟨by decide, rfl, rfl, rfl⟩, rfl⟩
theorem xbRD2 : RD xbL 3 2 (fun _ => true) (tab3 100 200 0) := xbRD rfl (by omega) (by omega) (by omega) (by omega) fun v hv hne => by
  rcases (show v = 0 ∨ v = 1 by omega) with rfl | rfl
  · exact ⟨2, 2, 100, by omega, ⟨by decide, rfl, rfl, rfl⟩, rfl⟩
  · exact ⟨0, 0, 100, by omega, ⟨by decide, rfl, rfl, rfl⟩, rfl⟩
theorem xb10 : roadT 3 xbL 1 0 = 200 := by rw [roadT_eq xbRoad xbRD1 (by omega)]; rfl
theorem xb20 : roadT 3 xbL 2 0 = 100 := by rw [roadT_eq xbRoad xbRD2 (by omega)]; rfl
theorem xbTm1 : timL 3 xbL xb1 = [[200]] := by
  have h : timL 3 xbL xb1 = [[roadT 3 xbL 1 0]] := rfl
  rw [h, xb10]
theorem xbTm3 : timL 3 xbL xb3 = [[]] := rfl
theorem xbTm4 : timL 3 xbL xb4 = [[200], [100]] := by
  have h : timL 3 xbL xb4 = [[roadT 3 xbL 1 0], [roadT 3 xbL 2 0]] := rfl
  rw [h, xb10, xb20]
theorem tm1 {a x : Int} {j k : Nat} (h : Flo.tmAt [[a]] j k = some x) : j = 0 ∧ k = 0 ∧ x = a := by
  unfold Flo.tmAt at h
  match j, k, h with
  | 0, 0, h => simp at h; exact ⟨rfl, rfl, h.symm⟩
  | 0, k + 1, h => simp at h
  | j + 1, k, h => simp at h
theorem tm2 {a b x : Int} {j k : Nat} (h : Flo.tmAt [[a], [b]] j k = some x) : (j = 0 ∧ k = 0 ∧ x = a) ∨ (j = 1 ∧ k = 0 ∧ x = b) := by
  unfold Flo.tmAt at h
  match j, k, h with
  | 0, 0, h => simp at h; exact .inl ⟨rfl, rfl, h.symm⟩
  | 0, k + 1, h => simp at h
  | 1, 0, h => simp at h; exact .inr ⟨rfl, rfl, h.symm⟩
  | 1, k + 1, h => simp at h
  | j + 2, k, h => simp at h
theorem tm0 {x : Int} {j k : Nat} (h : Flo.tmAt [[]] j k = some x) : False := by
  unfold Flo.tmAt at h
  match j, h with
  | 0, h => simp at h
  | j + 1, h => simp at h
theorem xbE1 : findErr 3 xbL xbT xb1 0 = 0 := by
  rw [findErr, if_neg (by rw [xbN1]; simp), show (3 : Int).toNat = 3 from rfl, xbTm1, solveErr, if_neg (by decide), if_pos]
  intro u v hu hF
  have := hF 0 0 200 rfl (by omega)
  have := hu 0
  show Flo.dn [3] v ≤ Flo.dn [5] u
  simp [Flo.dn]; omega
theorem xbE2 : findErr 3 xbL xbT xb2 0 = 10 := by
  rw [findErr, if_neg (by rw [xbN2]; simp), solveErr, if_pos (by decide)]
theorem xbE3 : findErr 3 xbL xbT xb3 0 = 0 := by
  rw [findErr, if_neg (by rw [xbN3]; simp), show (3 : Int).toNat = 3 from rfl, xbTm3, solveErr, if_neg (by decide), if_pos]
  intro u v hu hF
  have := hu 0
  show Flo.dn [] v ≤ Flo.dn [5] u
  simp [Flo.dn]; omega
theorem xbE4 : findErr 3 xbL xbT xb4 0 = 0 := by
  rw [findErr, if_neg (by rw [xbN4]; simp), show (3 : Int).toNat = 3 from rfl, xbTm4, solveErr, if_neg (by decide), if_pos]
  intro u v hu hF
  have := hF 0 0 200 rfl (by omega)
  have := hF 1 0 100 rfl (by omega)
  have := hu 0
  have := hu 1
  show Flo.dn [3] v ≤ Flo.dn [5, 2] u
  simp [Flo.dn]; omega
theorem xbD1 : Flo.DMax [5] [3] [[200]] 600 := by
  refine ⟨⟨fun _ => 0, fun _ => 200, fun _ => Int.le_refl _, fun j k x h _ => by obtain ⟨_, _, rfl⟩ := tm1 h; show (200 : Int) ≤ 0 + 1 * 200; omega, by simp [Flo.dn]⟩, fun u v hu hF => ?_⟩
  have := hF 0 0 200 rfl (by omega)
  have := hu 0
  simp [Flo.dn]; omega
theorem xbD3 : Flo.DMax [5] [] [[]] 0 := by
  refine ⟨⟨fun _ => 0, fun _ => 0, fun _ => Int.le_refl _, fun j k x h _ => (tm0 h).elim, by simp [Flo.dn]⟩, fun u v hu hF => ?_⟩
  have := hu 0
  simp [Flo.dn]; omega
theorem xbD4 : Flo.DMax [5, 2] [3] [[200], [100]] 400 := by
  refine ⟨⟨fun j => if j = 0 then 0 else 100, fun _ => 200, fun j => by show (0 : Int) ≤ if j = 0 then 0 else 100; split <;> omega, fun j k x h _ => by rcases tm2 h with ⟨rfl, _, rfl⟩ | ⟨rfl, _, rfl⟩ <;> simp, by simp [Flo.dn]⟩, fun u v hu hF => ?_⟩
  have := hF 0 0 200 rfl (by omega)
  have := hF 1 0 100 rfl (by omega)
  have := hu 0
  have := hu 1
  simp [Flo.dn]; omega
theorem xbR1 {s b : Int} {us vs : List Int} (h : FindRet 3 xbL xbT xb1 0 s b us vs) : s = 150 ∧ b = 3 := by
  obtain ⟨m, T, hm, _, hS, h1, h2, _⟩ := h.good xbE1
  obtain rfl : m = 3 := by omega
  have hx := hS.max
  rw [xbTm1] at hx
  obtain rfl : T = 600 := hx.unique xbD1
  exact ⟨h1.trans (by decide), h2.trans (by decide)⟩
theorem xbR3 {s b : Int} {us vs : List Int} (h : FindRet 3 xbL xbT xb3 0 s b us vs) : s = 0 := by
  obtain ⟨m, T, hm, _, hS, h1, h2, _⟩ := h.good xbE3
  obtain rfl : m = 3 := by omega
  have hx := hS.max
  rw [xbTm3] at hx
  obtain rfl : T = 0 := hx.unique xbD3
  exact h1.trans (by decide)
theorem xbR4 {s b : Int} {us vs : List Int} (h : FindRet 3 xbL xbT xb4 0 s b us vs) : s = 100 := by
  obtain ⟨m, T, hm, _, hS, h1, h2, _⟩ := h.good xbE4
  obtain rfl : m = 3 := by omega
  have hx := hS.max
  rw [xbTm4] at hx
  obtain rfl : T = 400 := hx.unique xbD4
  exact h1.trans (by decide)
theorem xbP1 : ProvedP 3 xbL xbT xb1 0 150 3 [0] [200] :=
  ⟨xbE1, by decide, by decide, by decide, (by rw [show (3 : Int).toNat = 3 from rfl, xbTm1]; intro j k x h _; obtain ⟨rfl, rfl, rfl⟩ := tm1 h; simp), by decide⟩
theorem xbP2 : ¬ ProvedP 3 xbL xbT xb1 0 151 3 [0] [201] := fun h => by
  have hF := h.feas
  rw [show (3 : Int).toNat = 3 from rfl, xbTm1] at hF
  have := hF 0 0 200 rfl (by omega)
  simp at this
theorem xbP4 : ProvedP 3 xbL xbT xb4 0 100 3 [0, 100] [200] :=
  ⟨xbE4, by decide, by decide, by decide, (by rw [show (3 : Int).toNat = 3 from rfl, xbTm4]; intro j k x h _; rcases tm2 h with ⟨rfl, rfl, rfl⟩ | ⟨rfl, rfl, rfl⟩ <;> simp), by decide⟩
end Go.Proofs.Ytgjfjbphngamgaa
