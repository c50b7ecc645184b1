/-
  Plain: the values that a cell can have fill an interval; the reference's interval is that.
-/
import Derived.Test.YtmkgfgnpgoegcaaM6
set_option linter.all false
namespace Go.Proofs.Ytmkgfgnpgoegcaa
open Go Go.W Go.RowKit

theorem wInner (ms : List Int) (s k : Nat) : ∀ (d i : Nat) (bl : List Int) (Q : List Nat), i + d = 16 → k < Q.length → WInv ms s bl Q k i → ∃ bl' Q', k < Q'.length ∧ WInv ms s bl' Q' k 16
  | 0, i, bl, Q, hd, hk, hW => by
    obtain rfl : i = 16 := by omega
    exact ⟨bl, Q, hk, hW⟩
  | d + 1, i, bl, Q, hd, hk, hW => by
    by_cases h1 : 0 ≤ bl.getD i 0
    · exact wInner ms s k d (i + 1) bl Q (by omega) hk (hW.skip (.inl ((hW.iff i (by omega)).1 h1)))
    · by_cases h2 : 0 < mget ms Q[k] i
      · exact wInner ms s k d (i + 1) _ (Q ++ [i]) (by omega) (by simp; omega) (hW.add hk (by omega) (by omega) h2)
      · exact wInner ms s k d (i + 1) bl Q (by omega) hk (hW.skip (.inr fun _ => by omega))
theorem wOuter (ms : List Int) (s : Nat) : ∀ (d k : Nat) (bl : List Int) (Q : List Nat), k + d = 16 → k ≤ Q.length → WInv ms s bl Q k 0 → ∃ bl', WayRet ms s bl'
  | d, k, bl, Q, hd, hk, hW => by
    by_cases h : k < Q.length
    · have := hW.room
      cases d with
      | zero => omega
      | succ d =>
        obtain ⟨bl', Q', h1, h2⟩ := wInner ms s k 16 0 bl Q rfl h hW
        exact wOuter ms s d (k + 1) bl' Q' (by omega) (by omega) h2.next
    · obtain rfl : k = Q.length := by omega
      exact ⟨bl, hW.ret⟩
theorem way_exists (ms : List Int) {s : Nat} (hs : s < 16) : ∃ bl, WayRet ms s bl := wOuter ms s 16 0 _ _ rfl (by simp) (WInv.init ms s hs)

section
variable {c n i : Nat} {h : Nat → Bool} {z u v : Nat → Int}
theorem Alike.trans (a : Alike c n z h u) (b : Alike c n u h v) : Alike c n z h v :=
  ⟨b.pos, fun k hk hh => (b.same k hk hh).trans (a.same k hk hh), fun P => (b.out P).trans (a.out P)⟩
theorem Alike.symm (a : Alike c n z h u) (hz : ∀ k, k < n → 0 ≤ z k) : Alike c n u h z := ⟨hz, fun k hk hh => (a.same k hk hh).symm, fun P => (a.out P).symm⟩
/-- what is known of a table's shape -/
structure Shape (c n : Nat) (z : Nat → Int) : Prop where
  c0 : 0 < c
  c8 : c ≤ 8
  n8 : n ≤ 8 * c
  pos : ∀ k, k < n → 0 ≤ z k
  sum : sumN z n ≤ 65536
theorem Shape.of_alike (hS : Shape c n z) (a : Alike c n z h u) : Shape c n u := ⟨hS.c0, hS.c8, hS.n8, a.pos, by rw [a.sum hS.n8 hS.c0]; exact hS.sum⟩
theorem Shape.row (hS : Shape c n z) {k : Nat} (hk : k < n) : k / c < 8 ∧ k % c < 8 := ⟨by rw [Nat.div_lt_iff_lt_mul hS.c0]; have := hS.n8; omega, by have := Nat.mod_lt k hS.c0; have := hS.c8; omega⟩
def reach (bl : List Int) (x : Nat) : Bool := decide (0 ≤ bl.getD x 0)
theorem closed_cut {ms bl : List Int} {s : Nat} (hS : Shape c n z) (hF : Fits c n i h z ms u) (a : Alike c n z h u) (hw : WayRet ms s bl) :
    (∀ k, okC n i h k = true → reach bl (8 + k % c) = true → reach bl (k / c) = false → u k = 0) ∧ (∀ k, okC n i h k = true → reach bl (k / c) = true → reach bl (8 + k % c) = true) := by
  have key : ∀ k, okC n i h k = true → k < n := fun k hk => by simp [okC] at hk; exact hk.1.1
  constructor
  · intro k ok h1 h2
    have hkn := key k ok
    obtain ⟨r1, r2⟩ := hS.row hkn
    have h3 := hw.cl (8 + k % c) (k / c) (by omega) (by omega) (by simpa [reach] using h1) (by simpa [reach] using h2)
    rw [hF.at_ _ _ (by omega) (by omega), resid_bwd hS.c0 ok r1] at h3
    have := a.pos k hkn; omega
  · intro k ok h1
    have hkn := key k ok
    obtain ⟨r1, r2⟩ := hS.row hkn
    cases h2 : reach bl (8 + k % c) with
    | true => rfl
    | false =>
      have h3 := hw.cl (k / c) (8 + k % c) (by omega) (by omega) (by simpa [reach] using h1) (by simpa [reach] using h2)
      rw [hF.at_ _ _ (by omega) (by omega), resid_fwd hS.c0 ok r1] at h3
      have := a.le hS.n8 hS.c0 hkn
      have := hS.sum
      have := hS.pos k hkn
      omega
theorem up_le {ms bl : List Int} (hS : Shape c n z) (hi : i < n) (hF : Fits c n i h z ms u) (a : Alike c n z h u) (b : AlikeW c n i z h v) (hw : WayRet ms (8 + i % c) bl) (ht : bl.getD (i / c) 0 < 0) : v i ≤ u i := by
  obtain ⟨h1, h2⟩ := closed_cut hS hF a hw
  have := cut_le (reach bl) a b hi h1 h2
  have e1 : reach bl (8 + i % c) = true := by unfold reach; rw [hw.rt]; exact decide_eq_true (Int.natCast_nonneg _)
  have e2 : reach bl (i / c) = false := by unfold reach; simp; simpa using ht
  rw [e1, e2] at this
  simp at this; omega
theorem down_le {ms bl : List Int} (hS : Shape c n z) (hi : i < n) (hF : Fits c n i h z ms u) (a : Alike c n z h u) (b : AlikeW c n i z h v) (hw : WayRet ms (i / c) bl) (ht : bl.getD (8 + i % c) 0 < 0) : u i ≤ v i := by
  obtain ⟨h1, h2⟩ := closed_cut hS hF a hw
  have := cut_le (reach bl) a b hi h1 h2
  have e1 : reach bl (i / c) = true := by unfold reach; rw [hw.rt]; exact decide_eq_true (Int.natCast_nonneg _)
  have e2 : reach bl (8 + i % c) = false := by unfold reach; simp; simpa using ht
  rw [e1, e2] at this
  simp at this; omega
theorem Part.refl (hz : ∀ k, k < n → 0 ≤ z k) : Part c n i h z z := ⟨hz, fun _ _ _ => rfl⟩
theorem Part.atI (hP : Part c n i h z u) (hi : i < n) : u i = z i := hP.same i hi (by simp [okC])
/-- cell i takes up what came through the others -/
theorem Part.upd_up {d : Int} (hP : Part c n i h z u) (hi : i < n) (hh : h i = true) (hd : 0 ≤ z i + d) (hO : ∀ P, Out c n P u = Out c n P z + d * (P (8 + i % c) - P (i / c))) : Alike c n z h (updF u i (z i + d)) where
  pos k hk := by
    by_cases e : k = i
    · subst e; rw [updF_same]; exact hd
    · rw [updF_other u _ e]; exact hP.pos k hk
  same k hk hf := by
    have e : k ≠ i := fun e => by subst e; rw [hh] at hf; cases hf
    rw [updF_other u _ e]; exact hP.same k hk (by simp [okC, hf])
  out P := by
    rw [Out_upd P u _ hi, hP.atI hi, hO P, show z i + d - z i = d by omega, Int.add_assoc, ← Int.mul_add]
    rw [show P (8 + i % c) - P (i / c) + (P (i / c) - P (8 + i % c)) = 0 by omega, Int.mul_zero, Int.add_zero]
theorem Part.upd_down {d : Int} (hP : Part c n i h z u) (hi : i < n) (hh : h i = true) (hd : 0 ≤ z i - d) (hO : ∀ P, Out c n P u = Out c n P z + d * (P (i / c) - P (8 + i % c))) : Alike c n z h (updF u i (z i - d)) := by
  have := hP.upd_up (d := -d) hi hh (by omega) fun P => by
    rw [hO P, Int.neg_mul, ← Int.mul_neg, Int.neg_sub]
  rwa [← Int.sub_eq_add_neg] at this
theorem Fits.upd_i {ms : List Int} (hF : Fits c n i h z ms u) (x : Int) : Fits c n i h z ms (updF u i x) := ⟨hF.len, fun a b ha hb => by
  rw [hF.at_ a b ha hb]
  have key : ∀ k, okC n i h k = true → updF u i x k = u k := fun k hk => updF_other u x fun e => by subst e; simp [okC] at hk
  unfold resid
  split
  · split
    · rename_i h1 h2; rw [key _ h2.2.2]
    · rfl
  · split
    · rename_i h1 h2; rw [key _ h2.2.2]
    · rfl⟩
theorem up1 (hS : Shape c n z) (hi : i < n) (hh : h i = true) (a : Alike c n z h v) (hlt : z i < v i) : ∃ w, Alike c n z h w ∧ w i = z i + 1 := by
  obtain ⟨r1, r2⟩ := hS.row hi
  obtain ⟨ms, hF⟩ := fits_exists c n i h z z
  obtain ⟨bl, hw⟩ := way_exists ms (s := 8 + i % c) (by omega)
  by_cases ht : bl.getD (i / c) 0 < 0
  · have := up_le hS hi hF (Alike.refl hS.pos) (a.weak i) hw ht; omega
  · obtain ⟨l, c1, c2, c3, c4, c5, rk, c6⟩ := hw.chain (t := i / c) (by omega) (by omega)
    obtain ⟨u, F, Pt, O⟩ := push_fits (kk := 1) (rk := rk) hS.c0 hS.c8 hS.n8 (by omega) l _ ms z c1 c3 hF (Part.refl hS.pos) fun x hx => ⟨(c5 x hx).1, (c5 x hx).2.1, by have := (c5 x hx).2.2; omega, c6 x hx⟩
    have := hS.pos i hi
    exact ⟨_, Pt.upd_up hi hh (by omega) O, updF_same ..⟩
theorem down1 (hS : Shape c n z) (hi : i < n) (hh : h i = true) (a : AlikeW c n i z h v) (hlt : v i < z i) (h0 : 0 < z i) : ∃ w, Alike c n z h w ∧ w i = z i - 1 := by
  obtain ⟨r1, r2⟩ := hS.row hi
  obtain ⟨ms, hF⟩ := fits_exists c n i h z z
  obtain ⟨bl, hw⟩ := way_exists ms (s := i / c) (by omega)
  by_cases ht : bl.getD (8 + i % c) 0 < 0
  · have := down_le hS hi hF (Alike.refl hS.pos) a hw ht; omega
  · obtain ⟨l, c1, c2, c3, c4, c5, rk, c6⟩ := hw.chain (t := 8 + i % c) (by omega) (by omega)
    obtain ⟨u, F, Pt, O⟩ := push_fits (kk := 1) (rk := rk) hS.c0 hS.c8 hS.n8 (by omega) l _ ms z c1 c3 hF (Part.refl hS.pos) fun x hx => ⟨(c5 x hx).1, (c5 x hx).2.1, by have := (c5 x hx).2.2; omega, c6 x hx⟩
    exact ⟨_, Pt.upd_down hi hh (by omega) O, updF_same ..⟩
theorem AlikeW.rebase (a : AlikeW c n i z h v) (b : Alike c n z h u) : AlikeW c n i u h v :=
  ⟨a.pos, fun k hk hh => (a.same k hk hh).trans (b.same k hk hh).symm, fun P => (a.out P).trans (b.out P).symm⟩
theorem to_zero (hi : i < n) (hh : h i = true) : ∀ (d : Nat) (z : Nat → Int), Shape c n z → AlikeW c n i z h v → v i < 0 → z i = d → ∃ w, Alike c n z h w ∧ w i = 0
  | 0, z, hS, a, _, hd => ⟨z, Alike.refl hS.pos, by simpa using hd⟩
  | d + 1, z, hS, a, hv, hd => by
    obtain ⟨w, b, e⟩ := down1 hS hi hh a (by omega) (by omega)
    obtain ⟨w2, b2, e2⟩ := to_zero hi hh d w (hS.of_alike b) (a.rebase b) hv (by omega)
    exact ⟨w2, b.trans b2, e2⟩
theorem fill_up (hi : i < n) (hh : h i = true) : ∀ (d : Nat) (z : Nat → Int), Shape c n z → Alike c n z h v → z i + d ≤ v i → ∃ w, Alike c n z h w ∧ w i = z i + d
  | 0, z, hS, a, _ => ⟨z, Alike.refl hS.pos, by simp⟩
  | d + 1, z, hS, a, hd => by
    obtain ⟨w, b, e⟩ := up1 hS hi hh a (by omega)
    obtain ⟨w2, b2, e2⟩ := fill_up hi hh d w (hS.of_alike b) ((b.symm hS.pos).trans a) (by omega)
    exact ⟨w2, b.trans b2, by omega⟩
def Exact (c n : Nat) (z : Nat → Int) (h : Nat → Bool) (i : Nat) (lo hi : Int) : Prop := ∀ x, (∃ u, Alike c n z h u ∧ u i = x) ↔ lo ≤ x ∧ x ≤ hi
theorem exact_of {lo hi : Int} {ul uh : Nat → Int} (hS : Shape c n z) (hi' : i < n) (al : Alike c n z h ul) (el : ul i = lo) (ah : Alike c n z h uh) (eh : uh i = hi) (hall : ∀ v, Alike c n z h v → lo ≤ v i ∧ v i ≤ hi) : Exact c n z h i lo hi := by
  intro x
  constructor
  · rintro ⟨u, a, rfl⟩; exact hall u a
  · rintro ⟨h1, h2⟩
    cases hh : h i with
    | false =>
      have e1 := al.same i hi' hh
      have e2 := ah.same i hi' hh
      exact ⟨ul, al, by omega⟩
    | true =>
      obtain ⟨d, hd⟩ := Int.eq_ofNat_of_zero_le (show 0 ≤ x - lo by omega)
      obtain ⟨w, b, e⟩ := fill_up (v := uh) hi' hh d ul (hS.of_alike al) ((al.symm hS.pos).trans ah) (by omega)
      exact ⟨w, al.trans b, by omega⟩
theorem Exact.le {lo hi : Int} (hS : Shape c n z) (e : Exact c n z h i lo hi) : lo ≤ z i ∧ z i ≤ hi := (e (z i)).1 ⟨z, Alike.refl hS.pos, rfl⟩
theorem Exact.inj {lo hi lo' hi' : Int} (hS : Shape c n z) (e : Exact c n z h i lo hi) (e' : Exact c n z h i lo' hi') : lo = lo' ∧ hi = hi' := by
  have h1 := e.le hS
  have h2 := e'.le hS
  have a1 := (e' lo).1 ((e lo).2 ⟨by omega, by omega⟩)
  have a2 := (e lo').1 ((e' lo').2 ⟨by omega, by omega⟩)
  have a3 := (e' hi).1 ((e hi).2 ⟨by omega, by omega⟩)
  have a4 := (e hi').1 ((e' hi').2 ⟨by omega, by omega⟩)
  omega
end
end Go.Proofs.Ytmkgfgnpgoegcaa
