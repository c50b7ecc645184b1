/-
  Plain: greater capacities, later ends, less handling, further edges.
-/
import Derived.Test.YtgjfjbphngamgaaRM4
set_option linter.all false
namespace Go.Proofs.Ytgjfjbphngamgaa
open Go Go.W Go.RowKit

theorem nightErr_good {m : Nat} {l : List Edg} {ts : List Truck} {ns : List Need} {hd : Int} (h : NightOk m l ts ns hd) : nightErr m l ts ns hd = 0 := by
  have h1 := roadErr_ok h.road
  have h2 : fullB ts ns = false := by
    have := h.tl
    have := h.nl
    simp [fullB]; omega
  have h3 : trucksErr m ts = 0 := by
    rw [trucksErr_drop (j := ts.length) (Nat.le_refl _) (fun i hi _ => ?_)]
    · simp [trucksErr]
    · have := h.tr ts[i] (List.getElem_mem hi)
      simp [truckBad, truckRange, inB]; omega
  have h4 : needsErr m ns = 0 := by
    rw [needsErr_drop (j := ns.length) (Nat.le_refl _) (fun i hi _ => ?_)]
    · simp [needsErr]
    · have := h.nd ns[i] (List.getElem_mem hi)
      simp [needBad, needRange, inB]; omega
  have h5 : needTwice ns = false := by simp [needTwice, twiceB, h.one]
  have h6 : inB hd 0 3600 = true := by have := h.hh; simp [inB]; omega
  rw [nightErr, if_neg (by simp [h1]), if_neg (by simp [h2]), if_neg (by simp [h3]), if_neg (by simp [h4]), if_neg (by simp [h5]), if_pos h6]
/-- times that are no greater -/
def Faster (m : Nat) (D D' : Nat → Nat → Int) : Prop := ∀ a v, a < m → v < m → 0 ≤ D a v → 0 ≤ D' a v ∧ D' a v ≤ D a v
section
variable {m : Nat} {D D' : Nat → Nat → Int} {cap cap' hd hd' : Int} {ns : List Need}
theorem go_eases (hF : Faster m D D') (hc : cap ≤ cap') (hh : 0 ≤ hd' ∧ hd' ≤ hd) : ∀ (rn : List Int) (s s' : TS), (∀ i ∈ rn, (needAt ns i).node.toNat < m) → s.at_ < m → s'.at_ = s.at_ → s'.load = s.load → s'.now ≤ s.now → goE D cap hd ns rn s = 0 →
    goE D' cap' hd' ns rn s' = 0 ∧ (goT D' hd' ns rn s').at_ = (goT D hd ns rn s).at_ ∧ (goT D' hd' ns rn s').load = (goT D hd ns rn s).load ∧ (goT D' hd' ns rn s').now ≤ (goT D hd ns rn s).now ∧ (goT D hd ns rn s).at_ < m
  | [], s, s', _, hs, h1, h2, h3, _ => ⟨rfl, h1, h2, h3, hs⟩
  | i :: rn, s, s', hn, hs, h1, h2, h3, hg => by
    have hv : visitE (goD D ns i s) cap (needAt ns i) s = 0 := by
      rw [goE] at hg
      by_cases h : visitE (goD D ns i s) cap (needAt ns i) s = 0
      · exact h
      · rw [if_pos h] at hg; exact hg
    rw [goE, if_neg (by simp [hv])] at hg
    have hni := hn i (by simp)
    have hd0 : 0 ≤ goD D ns i s := by
      unfold visitE at hv
      split at hv
      · cases hv
      · omega
    have hb : inB (s.load + (needAt ns i).move) 0 cap = true := by
      unfold visitE at hv
      split at hv
      · cases hv
      · split at hv
        · assumption
        · cases hv
    obtain ⟨f1, f2⟩ := hF s.at_ (needAt ns i).node.toNat hs hni hd0
    have e : goD D' ns i s' = D' s.at_ (needAt ns i).node.toNat := by unfold goD; rw [h1]
    have e0 : goD D ns i s = D s.at_ (needAt ns i).node.toNat := rfl
    have hv' : visitE (goD D' ns i s') cap' (needAt ns i) s' = 0 := by
      rw [visitE, if_neg (by rw [e]; omega), if_pos]
      rw [h2]
      simp [inB] at hb ⊢
      omega
    have hab : absI (needAt ns i).move * hd' ≤ absI (needAt ns i).move * hd := Int.mul_le_mul_of_nonneg_left hh.2 (by unfold absI; split <;> omega)
    obtain ⟨i1, i2, i3, i4, i5⟩ := go_eases hF hc hh rn (visitT (goD D ns i s) hd (needAt ns i) s) (visitT (goD D' ns i s') hd' (needAt ns i) s') (fun k hk => hn k (List.mem_cons_of_mem _ hk)) hni rfl (by simp [visitT, h2]) (by simp only [visitT]; rw [e, e0]; omega) hg
    exact ⟨by rw [goE, if_neg (by simp [hv'])]; exact i1, i2, i3, i4, i5⟩
end
/-- a better night -/
structure Eases (m q : Nat) (l l' : List Edg) (ts ts' : List Truck) (ns : List Need) (hd hd' : Int) (t t' : Truck) : Prop where
  night : NightOk m l' ts' ns hd'
  fast : Faster m (roadD m l) (roadD m l')
  len : ts'.length = ts.length
  ht : ts'[q]? = some t'
  dep : t'.depot = t.depot
  frm : t'.from_ = t.from_
  cap : t.cap ≤ t'.cap
  to_ : t.to_ ≤ t'.to_
  hh : 0 ≤ hd' ∧ hd' ≤ hd
theorem WalkOk.eases {m q : Nat} {l l' : List Edg} {ts ts' : List Truck} {ns : List Need} {hd hd' : Int} {rn : List Int} {t t' : Truck} (h : WalkOk m q l ts ns hd rn t) (he : walkE m l ts ns hd q rn = 0) (hE : Eases m q l l' ts ts' ns hd hd' t t') :
    walkE m l' ts' ns hd' q rn = 0 ∧ WalkOk m q l' ts' ns hd' rn t' ∧ outB' m l' ts' ns hd' q rn ≤ outB' m l ts ns hd q rn := by
  have hq : q < ts'.length := by rw [hE.len]; exact h.hq
  have hgt : ts'.getD (q : Int).toNat default = t' := by
    have := hE.ht
    rw [List.getElem?_eq_getElem hq] at this
    simpa [hq] using this
  have hr0 := (walkE_route he).2
  have hr : routeErr ts' ns q rn = 0 := by rw [← hr0]; unfold routeErr; rw [hE.len]
  have htr := h.tr
  have hnod : ∀ i ∈ rn, (needAt ns i).node.toNat < m := fun i hi => by
    obtain ⟨h1, h2⟩ := h.hr i hi
    obtain ⟨ni, rfl⟩ := Int.eq_ofNat_of_zero_le h1
    have hnl : ni < ns.length := by omega
    have := h.night.nd ns[ni] (List.getElem_mem hnl)
    simp [needAt, hnl]; omega
  have hst : startT t' = startT t := by unfold startT; rw [hE.dep, hE.frm]
  obtain ⟨g1, g2, g3, g4, g5⟩ := go_eases (ns := ns) hE.fast hE.cap hE.hh rn (startT t) (startT t') hnod (by show t.depot.toNat < m; omega) (by rw [hst]) (by rw [hst]) (by rw [hst]; omega) h.go
  have hB := h.B
  have hh := h.home
  have hS := h.ts rn.length (Nat.le_refl _)
  rw [List.take_length] at hS
  have hl0 := hS.load.1
  clear hS
  unfold homeE at hh
  have hd0 : 0 ≤ roadT m l (goT (roadD m l) hd ns rn (startT t)).at_ t.depot.toNat := by
    split at hh
    · cases hh
    · omega
  have hto : outB' m l ts ns hd q rn ≤ t.to_ := by
    split at hh
    · cases hh
    · split at hh
      · cases hh
      · omega
  clear hh
  generalize hs : goT (roadD m l) hd ns rn (startT t) = s at *
  have e1 : ∀ a v, roadD m l' a v = roadT m l' a v := fun a v => by simp [roadD]
  have e2 : ∀ a v, roadD m l a v = roadT m l a v := fun a v => by simp [roadD]
  have hf := hE.fast s.at_ t.depot.toNat g5 (by omega)
  rw [e1, e2] at hf
  obtain ⟨f1, f2⟩ := hf hd0
  have hmul : s.load * hd' ≤ s.load * hd := Int.mul_le_mul_of_nonneg_left hE.hh.2 hl0
  have key : walkE m l' ts' ns hd' q rn = 0 := by
    rw [walkE, if_neg (by simp [nightErr_good hE.night]), if_neg (by simp [hr])]
    unfold endT
    rw [hgt, g1, if_neg (by simp), g2, e1, hE.dep, homeE, if_neg (by omega), if_neg]
    rw [g3]
    have := hE.to_
    omega
  obtain ⟨m2, q2, t2, hm2, hq2, hW⟩ := walkOk_of key
  obtain rfl : m = m2 := by omega
  obtain rfl : q = q2 := by omega
  have e := hW.ht
  rw [hE.ht] at e
  cases e
  refine ⟨key, hW, ?_⟩
  rw [hW.B, g2, g3, hE.dep]
  omega
theorem faster_refl (m : Nat) (D : Nat → Nat → Int) : Faster m D D := fun _ _ _ _ h => ⟨h, Int.le_refl _⟩
theorem roadT_more {n s v : Nat} {l l' : List Edg} (hok : RoadOk n l) (hok' : RoadOk n l') (hs : s < n) (hv : v < n) (hsub : ∀ i u v w, EdgeAt l i u v w → ∃ i', EdgeAt l' i' u v w) (h : 0 ≤ roadT n l s v) : 0 ≤ roadT n l' s v ∧ roadT n l' s v ≤ roadT n l s v := by
  obtain ⟨K, D, hR⟩ := rd_exists hok hs
  obtain ⟨K', D', hR'⟩ := rd_exists hok' hs
  obtain ⟨k1, e1⟩ := roadT_nn hok hR hv h
  obtain ⟨k2, h2⟩ := hR.le hok hR' hsub v hv k1
  have e2 : roadT n l' s v = D' v := by rw [roadT_eq hok' hR' hv, if_pos k2]
  rw [e1, e2]
  exact ⟨hR'.nn v hv k2, h2⟩
theorem edgeAt_app {l : List Edg} {e : Edg} : ∀ i u v w, EdgeAt l i u v w → ∃ i', EdgeAt (l ++ [e]) i' u v w := fun i u v w ⟨hi, h1, h2, h3⟩ =>
  ⟨i, by simp; omega, by rw [List.getElem_append_left hi]; exact h1, by rw [List.getElem_append_left hi]; exact h2, by rw [List.getElem_append_left hi]; exact h3⟩
theorem faster_app {m : Nat} {l : List Edg} {e : Edg} (hok : RoadOk m l) (hok' : RoadOk m (l ++ [e])) : Faster m (roadD m l) (roadD m (l ++ [e])) := fun a v ha hv h => by
  have e1 : ∀ l a v, roadD m l a v = roadT m l a v := fun l a v => by simp [roadD]
  rw [e1] at h
  rw [e1, e1]
  exact roadT_more hok hok' ha hv edgeAt_app h
theorem nightOk_set {m q : Nat} {l : List Edg} {ts : List Truck} {ns : List Need} {hd : Int} {t' : Truck} (h : NightOk m l ts ns hd) (ht : (0 ≤ t'.depot ∧ t'.depot < m) ∧ (1 ≤ t'.cap ∧ t'.cap ≤ 32) ∧ 0 ≤ t'.from_ ∧ t'.from_ ≤ t'.to_ ∧ t'.to_ ≤ 86400) : NightOk m l (ts.set q t') ns hd :=
  ⟨h.road, by rw [List.length_set]; exact h.tl, h.nl, fun t h2 => by
    rcases List.mem_or_eq_of_mem_set h2 with h3 | rfl
    · exact h.tr t h3
    · exact ht, h.nd, h.hh, h.one⟩
/-- one cell of a row is written -/
theorem rows_set {α : Type} {enc : α → List Value} {sz : Nat} (hsz : ∀ x, (enc x).length = sz) : ∀ (l : List α) (k f : Nat) (x : α) (v : Value) (hk : k < l.length), f < sz → enc x = (enc l[k]).set f v → (l.flatMap enc).set (k * sz + f) v = (l.set k x).flatMap enc
  | [], _, _, _, _, hk, _, _ => by simp at hk
  | y :: l, 0, f, x, v, _, hf, h => by
    simp only [List.flatMap_cons, List.set_cons_zero, Nat.zero_mul, Nat.zero_add]
    rw [List.set_append_left _ _ (by rw [hsz]; exact hf), h]; rfl
  | y :: l, k + 1, f, x, v, hk, hf, h => by
    simp only [List.flatMap_cons, List.set_cons_succ]
    rw [List.set_append_right _ _ (by rw [hsz, Nat.succ_mul]; omega), hsz, show (k + 1) * sz + f - sz = k * sz + f by rw [Nat.succ_mul]; omega, rows_set hsz l k f x v (by simpa using hk) hf (by simpa using h)]
end Go.Proofs.Ytgjfjbphngamgaa

/-
  The law TruckEases.
-/
set_option linter.all false
namespace Go.Proofs.Ytgjfjbphngamgaa
open Go Go.W Go.RowKit

theorem cellsAt_app {w : World} {b : Nat} : ∀ (x y : List Value) (o : Nat), cellsAt w b o x → cellsAt w b (o + x.length) y → cellsAt w b o (x ++ y)
  | [], y, o, _, h => by simpa using h
  | a :: x, y, o, h, h2 => ⟨h.1, cellsAt_app x y (o + 1) h.2 (by rw [show o + 1 + x.length = o + (a :: x).length by simp; omega]; exact h2)⟩
theorem rowsCells {α : Type} {sz : Nat} {enc : α → List Value} {w : World} {b : Nat} (hsz : ∀ x, (enc x).length = sz) : ∀ (l : List α) (o : Nat), RowsAt sz enc w (some ⟨b, o, none⟩) l → cellsAt w b o (l.flatMap enc)
  | [], _, _ => trivial
  | a :: l, o, h => by
    have h0 := h 0 (by simp)
    obtain ⟨b', o', e1, h1⟩ := h0
    cases e1
    rw [List.flatMap_cons]
    refine cellsAt_app _ _ _ (by simpa using h1) (rowsCells hsz l _ fun k hk => ?_)
    obtain ⟨b', o', e1, h1⟩ := h (k + 1) (by simpa using hk)
    cases e1
    refine ⟨_, _, rfl, ?_⟩
    rw [hsz, show o + sz + k * sz = o + (k + 1) * sz by rw [Nat.succ_mul]; omega]
    simpa using h1
theorem rowsSrc {α : Type} {sz : Nat} {enc : α → List Value} {w : World} {A : Option Addr} {l : List α} (hsz : ∀ x, (enc x).length = sz) (h : RowsAt sz enc w A l) : l.length = 0 ∨ ∃ b o, A = some ⟨b, o, none⟩ ∧ cellsAt w b o (l.flatMap enc) := by
  rcases Nat.eq_zero_or_pos l.length with h0 | h0
  · exact .inl h0
  · obtain ⟨b, o, rfl, _⟩ := h 0 h0
    exact .inr ⟨b, o, rfl, rowsCells hsz l o h⟩
theorem rows_one {α : Type} {enc : α → List Value} (he : ∀ x, ((enc x).all (·.oneCell')) = true) (l : List α) : ((l.flatMap enc).all (·.oneCell')) = true := by
  rw [List.all_eq_true]
  intro v hv
  obtain ⟨x, _, hx⟩ := List.mem_flatMap.1 hv
  exact List.all_eq_true.1 (he x) v hx
theorem OwnS.empty {g el sz : Nat} : OwnS (some ⟨g, 0, none⟩) 0 0 [] el sz [⟨g, el, []⟩] := ⟨by simp, .inr ⟨g, [], rfl, rfl, Nat.le_refl _, by unfold maxLen; omega, by simp⟩⟩
def minI (a b : Int) : Int := if b < a then b else a

end Go.Proofs.Ytgjfjbphngamgaa
