/-
  Plain: what the program and the reference return is one and the same.
-/
import Derived.Test.YtmkgfgnpgoegcaaM9
set_option linter.all false
namespace Go.Proofs.Ytmkgfgnpgoegcaa
open Go Go.W Go.RowKit

def XSp (c : Int) (zs : List Int) (hid : List Bool) (k : Nat) (lo hi : Int) : Prop := ∃ cn : Nat, c = cn ∧ Exact cn zs.length (zF zs) (hF hid) k lo hi
theorem XSp.inj {r c : Int} {zs : List Int} {hid : List Bool} {k : Nat} {lo hi lo' hi' : Int} (hT : TblOk r c zs) (h : XSp c zs hid k lo hi) (h' : XSp c zs hid k lo' hi') : lo = lo' ∧ hi = hi' := by
  obtain ⟨cn, rfl, e⟩ := h
  obtain ⟨cn', hc, e'⟩ := h'
  obtain rfl : cn = cn' := Int.ofNat_inj.1 hc
  exact e.inj hT.shape e'
theorem SpanOf.x {r c : Int} {zs : List Int} {hid : List Bool} {k : Nat} {lo hi : Int} (hT : TblOk r c zs) (hk : k < zs.length) (h : SpanOf r c zs hid k lo hi) : XSp c zs hid k lo hi := by
  obtain ⟨r1, r2, c1, c2⟩ := hT.rng
  obtain ⟨cn, rfl⟩ := Int.eq_ofNat_of_zero_le (show 0 ≤ c by omega)
  exact ⟨cn, rfl, span_exact hT hk h⟩
theorem RSp.x {r c : Int} {zs : List Int} {hid : List Bool} {k : Nat} {lo hi : Int} (hT : TblOk r c zs) (hk : k < zs.length) (h : RSp c zs hid k lo hi) : XSp c zs hid k lo hi := by
  obtain ⟨cn, rfl, h⟩ := h
  exact ⟨cn, rfl, refSpan_exact hT hk h⟩
theorem UnsafeG.inj {Sp : Nat → Int → Int → Prop} {hid : List Bool} {width x y : Int} (hS : ∀ k lo hi lo' hi', Sp k lo hi → Sp k lo' hi' → lo = lo' ∧ hi = hi') (h : UnsafeG Sp hid width x) (h' : UnsafeG Sp hid width y) : x = y := by
  have key : ∀ k, NarrowG Sp hid width k → WideG Sp hid width k → False := fun k h1 h2 => by
    obtain ⟨a, lo, hi, b, c⟩ := h1
    rcases h2 with h2 | ⟨lo', hi', b', c'⟩
    · rw [a] at h2; cases h2
    · obtain ⟨rfl, rfl⟩ := hS _ _ _ _ _ b b'; exact c' c
  rcases h with ⟨rfl, h⟩ | ⟨k, rfl, hk, h1, h2⟩
  · rcases h' with ⟨rfl, _⟩ | ⟨k, rfl, hk, h1, _⟩
    · rfl
    · exact (key k h1 (h k hk)).elim
  · rcases h' with ⟨rfl, h⟩ | ⟨k', rfl, hk', h1', h2'⟩
    · exact (key k h1 (h k hk)).elim
    · rcases Nat.lt_trichotomy k k' with h3 | h3 | h3
      · exact (key k h1 (h2' k h3)).elim
      · rw [h3]
      · exact (key k' h1' (h2 k' h3)).elim
theorem UnsafeG.mono {Sp Sp' : Nat → Int → Int → Prop} {hid : List Bool} {width x : Int} (hS : ∀ k lo hi, k < hid.length → Sp k lo hi → Sp' k lo hi) (h : UnsafeG Sp hid width x) : UnsafeG Sp' hid width x := by
  have kn : ∀ k, k < hid.length → NarrowG Sp hid width k → NarrowG Sp' hid width k := fun k hk h => ⟨h.1, by obtain ⟨lo, hi, a, b⟩ := h.2; exact ⟨lo, hi, hS _ _ _ hk a, b⟩⟩
  have kw : ∀ k, k < hid.length → WideG Sp hid width k → WideG Sp' hid width k := fun k hk h => h.imp id fun ⟨lo, hi, a, b⟩ => ⟨lo, hi, hS _ _ _ hk a, b⟩
  rcases h with ⟨rfl, h⟩ | ⟨k, rfl, hk, h1, h2⟩
  · exact .inl ⟨rfl, fun k hk => kw k hk (h k hk)⟩
  · exact .inr ⟨k, rfl, hk, kn k hk h1, fun j hj => kw j (by omega) (h2 j hj)⟩
theorem UnsafeRet.g {r c : Int} {zs : List Int} {hid : List Bool} {width x : Int} (h : UnsafeRet r c zs hid width x) : UnsafeG (SpanOf r c zs hid) hid width x := by
  have kw : ∀ k, Wide r c zs hid width k → WideG (SpanOf r c zs hid) hid width k := fun k h => by
    obtain ⟨lo, hi, a, b⟩ := h
    cases hh : hid.getD k false with
    | false => exact .inl hh
    | true => exact .inr ⟨lo, hi, a, fun h => b ⟨hh, h⟩⟩
  rcases h with ⟨rfl, h⟩ | ⟨k, rfl, hk, ⟨lo, hi, a, b, d⟩, h2⟩
  · exact .inl ⟨rfl, fun k hk => kw k (h k hk)⟩
  · exact .inr ⟨k, rfl, hk, ⟨b, lo, hi, a, d⟩, fun j hj => kw j (h2 j hj)⟩
abbrev UX (c : Int) (zs : List Int) (width : Int) (hid : List Bool) (x : Int) : Prop := UnsafeG (XSp c zs hid) hid width x
theorem UnsafeRet.x {r c : Int} {zs : List Int} {hid : List Bool} {width x : Int} (hT : TblOk r c zs) (hh : hid.length = zs.length) (h : UnsafeRet r c zs hid width x) : UX c zs width hid x :=
  h.g.mono fun k lo hi hk a => a.x hT (by omega)
theorem UnsafeG.x {r c : Int} {zs : List Int} {hid : List Bool} {width x : Int} (hT : TblOk r c zs) (hh : hid.length = zs.length) (h : UnsafeG (RSp c zs hid) hid width x) : UX c zs width hid x :=
  h.mono fun k lo hi hk a => a.x hT (by omega)
theorem UX.inj {r c : Int} {zs : List Int} {hid : List Bool} {width x y : Int} (hT : TblOk r c zs) (h : UX c zs width hid x) (h' : UX c zs width hid y) : x = y :=
  UnsafeG.inj (fun _ _ _ _ _ a b => a.inj hT b) h h'
theorem NextRet.inj {c : Int} {i : Nat} {hid : List Bool} {x y : Int} (h : NextRet c i hid x) (h' : NextRet c i hid y) : x = y := by
  rcases h with ⟨rfl, h⟩ | ⟨j, k, rfl, hj, hk, hf, h1, h2⟩
  · rcases h' with ⟨rfl, _⟩ | ⟨j, k, rfl, hj, hk, hf, _⟩
    · rfl
    · exact absurd hf (h j hj k hk)
  · rcases h' with ⟨rfl, h⟩ | ⟨j', k', rfl, hj', hk', hf', h1', h2'⟩
    · exact absurd hf (h j hj k hk)
    · rcases Nat.lt_trichotomy j j' with h3 | h3 | h3
      · exact absurd hf (h2' j h3 k hk)
      · subst h3
        rcases Nat.lt_trichotomy k k' with h4 | h4 | h4
        · exact absurd hf (h1' k h4)
        · rw [h4]
        · exact absurd hf' (h1 k' h4)
      · exact absurd hf' (h2 j' h3 k' hk')
theorem HideRun.x {r c : Int} {zs : List Int} {width : Int} {hid out : List Bool} {er : Int} (hT : TblOk r c zs) (h : HideRun r c zs width hid out er) : hid.length = zs.length → HideG (UX c zs width) c hid out er := by
  induction h with
  | done hU => intro hl; exact .done (hU.x hT hl)
  | empty i hi hU hN => intro hl; exact .empty i hi (hU.x hT hl) hN
  | step i k hi hU hN _ ih => intro hl; exact .step i k hi (hU.x hT hl) hN (ih (by simpa using hl))
theorem HideG.x {r c : Int} {zs : List Int} {width : Int} {hid out : List Bool} {er : Int} (hT : TblOk r c zs) (h : HideG (fun h x => UnsafeG (RSp c zs h) h width x) c hid out er) : hid.length = zs.length → HideG (UX c zs width) c hid out er := by
  induction h with
  | done hU => intro hl; exact .done (hU.x hT hl)
  | empty i hi hU hN => intro hl; exact .empty i hi (hU.x hT hl) hN
  | step i k hi hU hN _ ih => intro hl; exact .step i k hi (hU.x hT hl) hN (ih (by simpa using hl))
theorem HideG.inj {r c : Int} {zs : List Int} {width : Int} {hid out : List Bool} {er : Int} (hT : TblOk r c zs) (h : HideG (UX c zs width) c hid out er) : ∀ {out' er'}, HideG (UX c zs width) c hid out' er' → out = out' ∧ er = er' := by
  induction h with
  | done hU =>
    intro out' er' h'
    cases h' with
    | done => exact ⟨rfl, rfl⟩
    | empty i hi hU' => have := hU.inj hT hU'; omega
    | step i k hi hU' => have := hU.inj hT hU'; omega
  | empty i hi hU hN =>
    intro out' er' h'
    cases h' with
    | done hU' => have := hU.inj hT hU'; omega
    | empty => exact ⟨rfl, rfl⟩
    | step i' k hi' hU' hN' =>
      obtain rfl : i = i' := Int.ofNat_inj.1 (hU.inj hT hU')
      have := hN.inj hN'; omega
  | step i k hi hU hN hR ih =>
    intro out' er' h'
    cases h' with
    | done hU' => have := hU.inj hT hU'; omega
    | empty i' hi' hU' hN' =>
      obtain rfl : i = i' := Int.ofNat_inj.1 (hU.inj hT hU')
      have := hN.inj hN'; omega
    | step i' k' hi' hU' hN' hR' =>
      obtain rfl : i = i' := Int.ofNat_inj.1 (hU.inj hT hU')
      obtain rfl : k = k' := Int.ofNat_inj.1 (hN.inj hN')
      exact ih hR'
theorem range_eq {r c : Int} {zs : List Int} {hid : List Bool} {i lo hi er lo' hi' er' : Int} (h : RangeRet r c zs hid i lo hi er) (h' : RefRangeRet r c zs hid i lo' hi' er') : lo = lo' ∧ hi = hi' ∧ er = er' := by
  have he : er = er' := h.1.trans h'.1.symm
  subst he
  by_cases h0 : er = 0
  · obtain ⟨hT, hh, k, rfl, hk, hS⟩ := h.2.2 h0
    obtain ⟨_, _, k', cn, hc, hkk, _, hS'⟩ := h'.2.2 h0
    obtain rfl : k = k' := Int.ofNat_inj.1 hkk
    have := (hS.x hT hk).inj hT (RSp.x hT hk ⟨cn, hc, hS'⟩)
    exact ⟨this.1, this.2, rfl⟩
  · have a := h.2.1 h0
    have b := h'.2.1 h0
    exact ⟨by omega, by omega, rfl⟩
theorem safe_eq {r c : Int} {zs : List Int} {hid : List Bool} {width : Int} {b b' : Bool} (h : SafeRet r c zs hid width b) (h' : SafeG r c zs hid width b') : b = b' := by
  have e := rngErr_ref r c zs hid.length 0
  rcases h with ⟨h0, rfl⟩ | ⟨h0, hT, hh, x, hx, rfl⟩
  · rcases h' with ⟨_, rfl⟩ | ⟨h1, hT, hh, _⟩
    · rfl
    · rw [hh] at h0
      have := hT.rngErr (k := 0) (by have := hT.len; have := hT.rng; obtain ⟨a, b, c, d⟩ := this; have := Int.mul_pos (show 0 < r by omega) (show 0 < _ by exact c); omega)
      exact absurd this h0
  · rcases h' with ⟨h1, rfl⟩ | ⟨h1, hT', hh', y, hy, rfl⟩
    · rw [hh] at h1; exact absurd hT.refErr h1
    · rw [(hx.x hT hh).inj hT (hy.x hT hh)]
theorem hide_eq {r c : Int} {zs : List Int} {least width : Int} {hid hid' : List Bool} {er er' : Int} (h : HideRet r c zs least width hid er) (h' : RefHideRet r c zs least width hid' er') : hid = hid' ∧ er = er' := by
  rcases h with ⟨h0, rfl, rfl⟩ | ⟨h0, hT, hR⟩
  · rcases h' with ⟨_, rfl, rfl⟩ | ⟨h1, _⟩
    · exact ⟨rfl, rfl⟩
    · exact absurd h1 h0
  · rcases h' with ⟨h1, _⟩ | ⟨_, _, hR'⟩
    · exact absurd h0 h1
    · exact (hR.x hT (by simp [smallL])).inj hT (hR'.x hT (by simp [smallL]))
end Go.Proofs.Ytmkgfgnpgoegcaa
