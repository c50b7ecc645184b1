/-
  Plain: greater capacities, later ends, less handling, further edges.
-/
import Derived.Test.YtgjfjbphngamgaaRM4
set_option linter.all false
namespace Go.Proofs.Ytgjfjbphngamgaa
open Go Go.W Go.RowKit

theorem nightErr_good {m : Nat} {l : List Edg} {ts : List Truck} {ns : List Need} {hd : Int} (h : NightOk m l ts ns hd) : nightErr m l ts ns hd = 0 := by
  have h1 := roadErr_ok h.road
  have h2 : fullB ts ns = false := by
    have := h.tl
    have := h.nl
    simp [fullB]; omega
  have h3 : trucksErr m ts = 0 := by
    rw [trucksErr_drop (j := ts.length) (Nat.le_refl _) (fun i hi _ => ?_)]
    · simp [trucksErr]
    · have := h.tr ts[i] (List.getElem_mem hi)
      simp [truckBad, truckRange, inB]; omega
  have h4 : needsErr m ns = 0 := by
    rw [needsErr_drop (j := ns.length) (Nat.le_refl _) (fun i hi _ => ?_)]
    · simp [needsErr]
    · have := h.nd ns[i] (List.getElem_mem hi)
      simp [needBad, needRange, inB]; omega
  have h5 : needTwice ns = false := by simp [needTwice, twiceB, h.one]
  have h6 : inB hd 0 3600 = true := by have := h.hh; simp [inB]; omega
  rw [nightErr, if_neg (by simp [h1]), if_neg (by simp [h2]), if_neg (by simp [h3]), if_neg (by simp [h4]), if_neg (by simp [h5]), if_pos h6]
section
variable {m : Nat} {D D' : Nat → Nat → Int} {cap cap' hd hd' : Int} {ns : List Need}
end
theorem roadT_more {n s v : Nat} {l l' : List Edg} (hok : RoadOk n l) (hok' : RoadOk n l') (hs : s < n) (hv : v < n) (hsub : ∀ i u v w, EdgeAt l i u v w → ∃ i', EdgeAt l' i' u v w) (h : 0 ≤ roadT n l s v) : 0 ≤ roadT n l' s v ∧ roadT n l' s v ≤ roadT n l s v := by
  obtain ⟨K, D, hR⟩ := rd_exists hok hs
  obtain ⟨K', D', hR'⟩ := rd_exists hok' hs
  obtain ⟨k1, e1⟩ := roadT_nn hok hR hv h
  obtain ⟨k2, h2⟩ := hR.le hok hR' hsub v hv k1
  have e2 : roadT n l' s v = D' v := by rw [roadT_eq hok' hR' hv, if_pos k2]
  rw [e1, e2]
  exact ⟨hR'.nn v hv k2, h2⟩
theorem edgeAt_app {l : List Edg} {e : Edg} : ∀ i u v w, EdgeAt l i u v w → ∃ i', EdgeAt (l ++ [e]) i' u v w := fun i u v w ⟨hi, h1, h2, h3⟩ =>
  ⟨i, by simp; omega, by rw [List.getElem_append_left hi]; exact h1, by rw [List.getElem_append_left hi]; exact h2, by rw [List.getElem_append_left hi]; exact h3⟩
end Go.Proofs.Ytgjfjbphngamgaa

/-
  The law TruckEases.
-/
set_option linter.all false
namespace Go.Proofs.Ytgjfjbphngamgaa
open Go Go.W Go.RowKit

theorem cellsAt_app {w : World} {b : Nat} : ∀ (x y : List Value) (o : Nat), cellsAt w b o x → cellsAt w b (o + x.length) y → cellsAt w b o (x ++ y)
  | [], y, o, _, h => by simpa using h
  | a :: x, y, o, h, h2 => ⟨h.1, cellsAt_app x y (o + 1) h.2 (by rw [show o + 1 + x.length = o + (a :: x).length by simp; omega]; exact h2)⟩
theorem rowsCells {α : Type} {sz : Nat} {enc : α → List Value} {w : World} {b : Nat} (hsz : ∀ x, (enc x).length = sz) : ∀ (l : List α) (o : Nat), RowsAt sz enc w (some ⟨b, o, none⟩) l → cellsAt w b o (l.flatMap enc)
  | [], _, _ => trivial
  | a :: l, o, h => by
    have h0 := h 0 (by simp)
    obtain ⟨b', o', e1, h1⟩ := h0
    cases e1
    rw [List.flatMap_cons]
    refine cellsAt_app _ _ _ (by simpa using h1) (rowsCells hsz l _ fun k hk => ?_)
    obtain ⟨b', o', e1, h1⟩ := h (k + 1) (by simpa using hk)
    cases e1
    refine ⟨_, _, rfl, ?_⟩
    rw [hsz, show o + sz + k * sz = o + (k + 1) * sz by rw [Nat.succ_mul]; omega]
    simpa using h1
theorem rowsSrc {α : Type} {sz : Nat} {enc : α → List Value} {w : World} {A : Option Addr} {l : List α} (hsz : ∀ x, (enc x).length = sz) (h : RowsAt sz enc w A l) : l.length = 0 ∨ ∃ b o, A = some ⟨b, o, none⟩ ∧ cellsAt w b o (l.flatMap enc) := by
  rcases Nat.eq_zero_or_pos l.length with h0 | h0
  · exact .inl h0
  · obtain ⟨b, o, rfl, _⟩ := h 0 h0
    exact .inr ⟨b, o, rfl, rowsCells hsz l o h⟩
theorem rows_one {α : Type} {enc : α → List Value} (he : ∀ x, ((enc x).all (·.oneCell')) = true) (l : List α) : ((l.flatMap enc).all (·.oneCell')) = true := by
  rw [List.all_eq_true]
  intro v hv
  obtain ⟨x, _, hx⟩ := List.mem_flatMap.1 hv
  exact List.all_eq_true.1 (he x) v hx
theorem OwnS.empty {g el sz : Nat} : OwnS (some ⟨g, 0, none⟩) 0 0 [] el sz [⟨g, el, []⟩] := ⟨by simp, .inr ⟨g, [], rfl, rfl, Nat.le_refl _, by unfold maxLen; omega, by simp⟩⟩
end Go.Proofs.Ytgjfjbphngamgaa
