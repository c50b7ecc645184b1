/-
  Plain: roads, least times.
-/
import Derived.Test.YtfddebpeiilohaaOwn
set_option linter.all false
namespace Go.Proofs.Ytfddebpeiilohaa
open Go Go.W

structure Edg where
  f : Int
  t : Int
  secs : Int
instance : Inhabited Edg := ⟨⟨0, 0, 0⟩⟩
def edgCells (a : Edg) : List Value := [I a.f, I a.t, I a.secs]
theorem edgCells_len (a : Edg) : (edgCells a).length = 3 := rfl
abbrev EdgsAt := RowsAt 3 edgCells
def isNode (n k : Int) : Bool := decide (0 ≤ k) && decide (k < n)
def edgBad (n : Int) (a : Edg) : Bool := (!isNode n a.f) || (!isNode n a.t)
def edgRange (a : Edg) : Bool := decide (a.secs < 1) || decide (1000 < a.secs)
def edgsErr (n : Int) : List Edg → Int
  | [] => 0
  | a :: l => if edgBad n a = true then 7 else if edgRange a = true then 1 else edgsErr n l
def roadErr (n : Int) (l : List Edg) : Int := if (decide (n < 1) || decide (64 < n)) = true then 1 else if (512 : Int) < l.length then 8 else edgsErr n l
theorem edgsErr_drop {n : Int} {l : List Edg} : ∀ {j : Nat}, j ≤ l.length → (∀ i (hi : i < l.length), i < j → edgBad n l[i] = false ∧ edgRange l[i] = false) → edgsErr n l = edgsErr n (l.drop j)
  | 0, _, _ => rfl
  | j + 1, hj, h => by
    rw [edgsErr_drop (j := j) (by omega) (fun i hi hij => h i hi (by omega)), List.drop_eq_getElem_cons (show j < l.length by omega), edgsErr]
    have := h j (by omega) (by omega)
    simp [this.1, this.2]
theorem edgsErr_ok {n : Int} : ∀ {l : List Edg}, edgsErr n l = 0 → ∀ a ∈ l, edgBad n a = false ∧ edgRange a = false
  | [], _, a, ha => by cases ha
  | b :: l, h, a, ha => by
    rw [edgsErr] at h
    split at h
    · cases h
    · rename_i h1
      split at h
      · cases h
      · rename_i h2
        rcases List.mem_cons.1 ha with rfl | ha
        · exact ⟨by simpa using h1, by simpa using h2⟩
        · exact edgsErr_ok h a ha
/-- a road as Check lets it pass -/
structure RoadOk (n : Nat) (l : List Edg) : Prop where
  n1 : 1 ≤ n
  n2 : n ≤ 64
  len : l.length ≤ 512
  nodes : ∀ a ∈ l, (0 ≤ a.f ∧ a.f < n) ∧ (0 ≤ a.t ∧ a.t < n)
  secs : ∀ a ∈ l, 1 ≤ a.secs ∧ a.secs ≤ 1000
theorem roadOk_of {n : Int} {l : List Edg} (h : roadErr n l = 0) : ∃ m : Nat, n = m ∧ RoadOk m l := by
  unfold roadErr at h
  split at h
  · cases h
  · rename_i h1
    split at h
    · cases h
    · rename_i h2
      have h1 : 1 ≤ n ∧ n ≤ 64 := by simp at h1; omega
      obtain ⟨m, rfl⟩ := Int.eq_ofNat_of_zero_le (show 0 ≤ n by omega)
      refine ⟨m, rfl, by omega, by omega, by simp at h2; omega, fun a ha => ?_, fun a ha => ?_⟩
      · have := (edgsErr_ok h a ha).1
        simp [edgBad, isNode] at this; omega
      · have := (edgsErr_ok h a ha).2
        simp [edgRange] at this; omega
/-- the edge from u to v, of w seconds -/
def EdgeAt (l : List Edg) (i u v : Nat) (w : Int) : Prop := ∃ h : i < l.length, l[i].f = u ∧ l[i].t = v ∧ l[i].secs = w
/-- a walk from s to v, of c seconds -/
inductive Walk (l : List Edg) (s : Nat) : Nat → Int → Prop
  | nil : Walk l s s 0
  | step {u v i : Nat} {c w : Int} : Walk l s u c → EdgeAt l i u v w → Walk l s v (c + w)
theorem least_ex {P : Nat → Prop} : ∀ (n : Nat), P n → ∃ m, P m ∧ ∀ k, P k → m ≤ k := by
  intro n
  induction n using Nat.strongRecOn with
  | _ n ih =>
    intro hn
    by_cases h : ∃ k, k < n ∧ P k
    · obtain ⟨k, hk, hp⟩ := h
      exact ih k hk hp
    · exact ⟨n, hn, fun k hk => Nat.le_of_not_lt fun hlt => h ⟨k, hlt, hk⟩⟩
/-- the nodes K that can be reached from s, with least times D -/
structure RD (l : List Edg) (n s : Nat) (K : Nat → Bool) (D : Nat → Int) : Prop where
  src : K s = true ∧ D s = 0
  clo : ∀ i u v w, EdgeAt l i u v w → u < n → v < n → K u = true → K v = true ∧ D v ≤ D u + w
  par : ∀ v, v < n → K v = true → v ≠ s → ∃ u i w, u < n ∧ K u = true ∧ EdgeAt l i u v w ∧ D v = D u + w
  nn : ∀ v, v < n → K v = true → 0 ≤ D v
section
variable {l l' : List Edg} {n s : Nat} {K K' : Nat → Bool} {D D' : Nat → Int}
theorem EdgeAt.pos (h : RoadOk n l) {i u v : Nat} {w : Int} (hE : EdgeAt l i u v w) : 1 ≤ w ∧ w ≤ 1000 ∧ u < n ∧ v < n := by
  obtain ⟨hi, h1, h2, h3⟩ := hE
  have q1 := h.secs l[i] (List.getElem_mem hi)
  have q2 := h.nodes l[i] (List.getElem_mem hi)
  omega
theorem Walk.nn (h : RoadOk n l) {v : Nat} {c : Int} (hw : Walk l s v c) : 0 ≤ c := by
  induction hw with
  | nil => exact Int.le_refl _
  | step _ hE ih => have := hE.pos h; omega
open Classical in
theorem rd_exists (h : RoadOk n l) (hs : s < n) : ∃ K D, RD l n s K D := by
  have hleast : ∀ v, (∃ c, Walk l s v c) → ∃ c, Walk l s v c ∧ ∀ c', Walk l s v c' → c ≤ c' := fun v ⟨c, hc⟩ => by
    have h0 := hc.nn h
    obtain ⟨c, rfl⟩ := Int.eq_ofNat_of_zero_le h0
    obtain ⟨m, hm, hl⟩ := least_ex (P := fun k : Nat => Walk l s v k) c hc
    refine ⟨m, hm, fun c' hc' => ?_⟩
    obtain ⟨c', rfl⟩ := Int.eq_ofNat_of_zero_le (hc'.nn h)
    have := hl c' hc'
    omega
  let D : Nat → Int := fun v => if hv : ∃ c, Walk l s v c then (hleast v hv).choose else 0
  have hD : ∀ v (hv : ∃ c, Walk l s v c), Walk l s v (D v) ∧ ∀ c', Walk l s v c' → D v ≤ c' := fun v hv => by
    have : D v = (hleast v hv).choose := by simp only [D]; rw [dif_pos hv]
    rw [this]; exact (hleast v hv).choose_spec
  have hK : ∀ v, decide (∃ c, Walk l s v c) = true ↔ ∃ c, Walk l s v c := fun v => decide_eq_true_iff
  refine ⟨fun v => decide (∃ c, Walk l s v c), D, ⟨(hK s).2 ⟨0, .nil⟩, ?_⟩, fun i u v w hE hu hv hk => ?_, fun v hv hk hvs => ?_, fun v hv hk => ((hD v ((hK v).1 hk)).1).nn h⟩
  · have h1 := (hD s ⟨0, .nil⟩).2 0 .nil
    have h2 := ((hD s ⟨0, .nil⟩).1).nn h
    omega
  · have h1 := (hD u ((hK u).1 hk)).1
    have h2 := Walk.step h1 hE
    exact ⟨(hK v).2 ⟨_, h2⟩, (hD v ⟨_, h2⟩).2 _ h2⟩
  · obtain ⟨h1, h2⟩ := hD v ((hK v).1 hk)
    generalize hc : D v = c at h1 h2
    cases h1 with
    | nil => exact absurd rfl hvs
    | @step u _ i c w hw hE =>
      have hu : ∃ c, Walk l s u c := ⟨_, hw⟩
      obtain ⟨h3, h4⟩ := hD u hu
      have h5 := h4 _ hw
      have h6 := h2 _ (Walk.step h3 hE)
      exact ⟨u, i, w, (hE.pos h).2.2.1, (hK u).2 hu, hE, by omega⟩
/-- least times by all edges of l are at least those by all edges of l' -/
theorem RD.le (h : RoadOk n l) (h1 : RD l n s K D) (h2 : RD l' n s K' D') (hsub : ∀ i u v w, EdgeAt l i u v w → ∃ i', EdgeAt l' i' u v w) : ∀ v, v < n → K v = true → K' v = true ∧ D' v ≤ D v := by
  have key : ∀ (m : Nat) (v : Nat), v < n → K v = true → D v ≤ m → K' v = true ∧ D' v ≤ D v := by
    intro m
    induction m with
    | zero =>
      intro v hv hk hm
      by_cases hvs : v = s
      · subst hvs; exact ⟨h2.src.1, by rw [h2.src.2, h1.src.2]; exact Int.le_refl _⟩
      · obtain ⟨u, i, w, hu, hku, hE, hd⟩ := h1.par v hv hk hvs
        have := h1.nn u hu hku
        have := hE.pos h
        omega
    | succ m ih =>
      intro v hv hk hm
      by_cases hvs : v = s
      · subst hvs; exact ⟨h2.src.1, by rw [h2.src.2, h1.src.2]; exact Int.le_refl _⟩
      · obtain ⟨u, i, w, hu, hku, hE, hd⟩ := h1.par v hv hk hvs
        have hp := hE.pos h
        obtain ⟨q1, q2⟩ := ih u hu hku (by omega)
        obtain ⟨i', hE'⟩ := hsub i u v w hE
        obtain ⟨q3, q4⟩ := h2.clo i' u v w hE' hu hv q1
        exact ⟨q3, by omega⟩
  intro v hv hk
  exact key (D v).toNat v hv hk (by omega)
theorem RD.unique (h : RoadOk n l) (h1 : RD l n s K D) (h2 : RD l n s K' D') : ∀ v, v < n → K v = K' v ∧ (K v = true → D v = D' v) := fun v hv => by
  have a := h1.le h h2 (fun i u v w hE => ⟨i, hE⟩) v hv
  have b := h2.le h h1 (fun i u v w hE => ⟨i, hE⟩) v hv
  cases hk : K v with
  | true => have q1 := a hk; have q2 := b q1.1; exact ⟨q1.1.symm, fun _ => by omega⟩
  | false =>
    refine ⟨?_, fun q => by cases q⟩
    cases hk' : K' v with
    | true => have := (b hk').1; rw [hk] at this; cases this
    | false => rfl
end
end Go.Proofs.Ytfddebpeiilohaa
