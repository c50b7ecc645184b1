/-
  Plain: a move in a table leads to one that looks the same.
-/
import Derived.Test.YtmkgfgnpgoegcaaM12
set_option linter.all false
namespace Go.Proofs.Ytmkgfgnpgoegcaa
open Go Go.W Go.RowKit

def addAt (us : List Int) (i : Nat) (n : Int) : List Int := us.set i (us.getD i 0 + n)
theorem addAt_length (us : List Int) (i : Nat) (n : Int) : (addAt us i n).length = us.length := by simp [addAt]
theorem addAt_get {us : List Int} {i : Nat} {n : Int} (hi : i < us.length) (k : Nat) : (addAt us i n).getD k 0 = us.getD k 0 + (if k = i then n else 0) := by
  unfold addAt
  simp only [List.getD_eq_getElem?_getD, List.getElem?_set]
  by_cases h : i = k
  · subst h; simp [hi]
  · rw [if_neg h, if_neg (fun e => h e.symm)]; omega
theorem addAt_bd {us : List Int} {i : Nat} {n B : Int} (hi : i < us.length) (hn : -255 ≤ n ∧ n ≤ 255) (h : ∀ k, -B ≤ us.getD k 0 ∧ us.getD k 0 ≤ B) : ∀ k, -(B + 255) ≤ (addAt us i n).getD k 0 ∧ (addAt us i n).getD k 0 ≤ B + 255 := fun k => by
  have := h k
  rw [addAt_get hi]; split <;> omega
theorem Out_addAt {c i : Nat} {us : List Int} {n : Int} (P : Nat → Int) (hi : i < us.length) : Out c us.length P (zF (addAt us i n)) = Out c us.length P (zF us) + n * (P (i / c) - P (8 + i % c)) := by
  have e : zF (addAt us i n) = updF (zF us) i (zF us i + n) := by
    funext k
    simp only [zF, updF]
    rw [addAt_get hi]; split
    · rename_i h; rw [h]
    · omega
  rw [e, Out_upd P _ _ hi, show zF us i + n - zF us i = n by omega]
def mv4 (us : List Int) (a b x y : Nat) (n : Int) : List Int := addAt (addAt (addAt (addAt us a n) b n) x (-n)) y (-n)
theorem mv4_length (us : List Int) (a b x y : Nat) (n : Int) : (mv4 us a b x y n).length = us.length := by simp [mv4, addAt_length]
theorem mv4_get {us : List Int} {a b x y : Nat} {n : Int} (ha : a < us.length) (hb : b < us.length) (hx : x < us.length) (hy : y < us.length) (k : Nat) :
    (mv4 us a b x y n).getD k 0 = us.getD k 0 + (if k = a then n else 0) + (if k = b then n else 0) + (if k = x then -n else 0) + (if k = y then -n else 0) := by
  unfold mv4
  rw [addAt_get (by simpa [addAt_length] using hy), addAt_get (by simpa [addAt_length] using hx), addAt_get (by simpa [addAt_length] using hb), addAt_get ha]
theorem mv4_alike {c r1 s1 c1 d1 : Nat} {z : Nat → Int} {hid : List Bool} {us : List Int} {n : Int} (A : Alike c us.length z (hF hid) (zF us)) (h0 : 0 ≤ n) (hrs : r1 ≠ s1) (hc : c1 < c) (hd : d1 < c)
    (ha : r1 * c + c1 < us.length) (hb : s1 * c + d1 < us.length) (hx : r1 * c + d1 < us.length) (hy : s1 * c + c1 < us.length)
    (ga : hF hid (r1 * c + c1) = true) (gb : hF hid (s1 * c + d1) = true) (gx : hF hid (r1 * c + d1) = true) (gy : hF hid (s1 * c + c1) = true) (nx : n ≤ us.getD (r1 * c + d1) 0) (ny : n ≤ us.getD (s1 * c + c1) 0) :
    Alike c us.length z (hF hid) (zF (mv4 us (r1 * c + c1) (s1 * c + d1) (r1 * c + d1) (s1 * c + c1) n)) := by
  have hxy : r1 * c + d1 ≠ s1 * c + c1 := fun e => by
    have h1 := (rc_iff hd).1 e
    have h2 := (rc_iff (k := s1 * c + c1) hc).1 rfl
    exact hrs (h1.1.trans h2.1.symm)
  refine ⟨fun k hk => ?_, fun k hk hf => ?_, fun P => ?_⟩
  · show 0 ≤ (mv4 us _ _ _ _ n).getD k 0
    rw [mv4_get ha hb hx hy]
    have h1 : 0 ≤ us.getD k 0 := A.pos k hk
    by_cases e1 : k = r1 * c + d1
    · have e2 : k ≠ s1 * c + c1 := fun e => hxy (e1 ▸ e)
      have nx' : n ≤ us.getD k 0 := by rw [e1]; exact nx
      rw [if_neg e2, if_pos e1]
      split <;> split <;> omega
    · rw [if_neg e1]
      by_cases e2 : k = s1 * c + c1
      · have ny' : n ≤ us.getD k 0 := by rw [e2]; exact ny
        rw [if_pos e2]
        split <;> split <;> omega
      · rw [if_neg e2]
        split <;> split <;> omega
  · show (mv4 us _ _ _ _ n).getD k 0 = z k
    rw [mv4_get ha hb hx hy]
    have h1 : us.getD k 0 = z k := A.same k hk hf
    have n1 : ∀ q, hF hid q = true → k ≠ q := fun q hq e => by subst e; rw [hq] at hf; cases hf
    rw [if_neg (n1 _ ga), if_neg (n1 _ gb), if_neg (n1 _ gx), if_neg (n1 _ gy)]; omega
  · unfold mv4
    have l1 : (addAt us (r1 * c + c1) n).length = us.length := addAt_length ..
    have l2 : (addAt (addAt us (r1 * c + c1) n) (s1 * c + d1) n).length = us.length := by rw [addAt_length, l1]
    have l3 : (addAt (addAt (addAt us (r1 * c + c1) n) (s1 * c + d1) n) (r1 * c + d1) (-n)).length = us.length := by rw [addAt_length, l2]
    have o1 := Out_addAt (c := c) (n := n) P ha
    have o2 := Out_addAt (c := c) (us := addAt us (r1 * c + c1) n) (i := s1 * c + d1) (n := n) P (by omega)
    have o3 := Out_addAt (c := c) (us := addAt (addAt us (r1 * c + c1) n) (s1 * c + d1) n) (i := r1 * c + d1) (n := -n) P (by omega)
    have o4 := Out_addAt (c := c) (us := addAt (addAt (addAt us (r1 * c + c1) n) (s1 * c + d1) n) (r1 * c + d1) (-n)) (i := s1 * c + c1) (n := -n) P (by omega)
    rw [l1] at o2
    rw [l2] at o3
    rw [l3] at o4
    rw [o4, o3, o2, o1, A.out P]
    obtain ⟨a1, a2⟩ := (rc_iff (k := r1 * c + c1) hc).1 rfl
    obtain ⟨b1, b2⟩ := (rc_iff (k := s1 * c + d1) hd).1 rfl
    obtain ⟨x1, x2⟩ := (rc_iff (k := r1 * c + d1) hd).1 rfl
    obtain ⟨y1, y2⟩ := (rc_iff (k := s1 * c + c1) hc).1 rfl
    rw [← a1, ← a2, ← b1, ← b2, ← x1, ← x2, ← y1, ← y2]
    simp only [Int.mul_sub, Int.neg_mul]
    omega
theorem Exact.base {c n i : Nat} {z u : Nat → Int} {h : Nat → Bool} {lo hi : Int} (e : Exact c n z h i lo hi) (hz : ∀ k, k < n → 0 ≤ z k) (a : Alike c n z h u) : Exact c n u h i lo hi := fun x => by
  rw [← e x]
  constructor
  · rintro ⟨v, b, hx⟩; exact ⟨v, a.trans b, hx⟩
  · rintro ⟨v, b, hx⟩; exact ⟨v, (a.symm hz).trans b, hx⟩
theorem alike_ok {r : Int} {c : Nat} {zs us : List Int} {h : Nat → Bool} (hT : TblOk r c zs) (hl : us.length = zs.length) (a : Alike c zs.length (zF zs) h (zF us)) : TblOk r c us := by
  have hS := hT.shape
  refine ⟨hT.rng, by rw [hl]; exact hT.len, fun k hk => ?_, ?_⟩
  · have e : us[k] = zF us k := by simp [zF, hk]
    have h1 := a.pos k (by omega)
    have h2 := a.le hS.n8 hS.c0 (show k < zs.length by omega)
    have h3 := hS.sum
    rw [e]; omega
  · rw [← sumN_list, hl, a.sum hS.n8 hS.c0, sumN_list]; exact hT.sum
theorem alike_spans {r : Int} {c : Nat} {zs us : List Int} {a : List Bool} {j : Nat} {lo hi : Int} (hT : TblOk r c zs) (hl : us.length = zs.length) (hA : Alike c zs.length (zF zs) (hF a) (zF us)) (hj : j < zs.length) (h : XSp c zs a j lo hi) :
    XSp c us a j lo hi ∧ (lo ≤ zs.getD j 0 ∧ zs.getD j 0 ≤ hi) ∧ (lo ≤ us.getD j 0 ∧ us.getD j 0 ≤ hi) ∧ (a.getD j false = false → lo = hi) := by
  obtain ⟨cn, hc, e⟩ := h
  obtain rfl : c = cn := Int.ofNat_inj.1 hc
  have hS := hT.shape
  refine ⟨⟨c, rfl, by rw [hl]; exact e.base hS.pos hA⟩, (e _).1 ⟨_, Alike.refl hS.pos, rfl⟩, (e _).1 ⟨_, hA, rfl⟩, fun hf => ?_⟩
  have h1 := (e _).1 ⟨_, Alike.refl hS.pos, rfl⟩
  obtain ⟨v, b, hv⟩ := (e lo).2 ⟨by omega, by omega⟩
  obtain ⟨v', b', hv'⟩ := (e hi).2 ⟨by omega, by omega⟩
  rw [← hv, ← hv', b.same j hj hf, b'.same j hj hf]
end Go.Proofs.Ytmkgfgnpgoegcaa
