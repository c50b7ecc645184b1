/-
  Plain: what reach finds: a set closed under the arcs that can take more, each node with the arc by which it was reached.
-/
import Derived.Test.YtmkgfgnpgoegcaaM1
set_option linter.all false
namespace Go.Proofs.Ytmkgfgnpgoegcaa
open Go Go.W

def kn (sts : List Step) (v : Nat) : Bool := (sts.getD v default).known
def dp (sts : List Step) (v : Nat) : Int := (sts.getD v default).depth
def Edge (l : List Arc) (on : List Int) (x : Step) (p v : Nat) : Prop :=
  x.from_ = p ∧ ∃ ai : Nat, x.arc = ai ∧ ∃ (h : ai < l.length) (h2 : ai < on.length),
    (x.fwd = true → l[ai].f = p ∧ l[ai].t = v ∧ x.room = l[ai].cap - on[ai] ∧ on[ai] < l[ai].cap) ∧ (x.fwd = false → l[ai].t = p ∧ l[ai].f = v ∧ x.room = on[ai] ∧ 0 < on[ai])
structure BI (l : List Arc) (on : List Int) (n : Nat) (d : Int) (sts0 r : List Step) : Prop where
  len : r.length = n
  old : ∀ v, v < n → kn sts0 v = true → r.getD v default = sts0.getD v default
  new : ∀ v, v < n → kn r v = true → kn sts0 v = false → dp r v = d + 1 ∧ ∃ p, p < n ∧ kn sts0 p = true ∧ dp sts0 p = d ∧ Edge l on (r.getD v default) p v
theorem getD_set {sts : List Step} {b v : Nat} {x : Step} (hb : b < sts.length) : (sts.set b x).getD v default = if b = v then x else sts.getD v default := by
  by_cases h : b = v
  · subst h; simp [hb]
  · simp [h, List.getElem?_set]
theorem vis_BI {l : List Arc} {on : List Int} {n : Nat} {d : Int} {sts0 : List Step} {r : RSt} (h : BI l on n d sts0 r.1) {a b : Nat} (ha : a < n) (hb : b < n) {arc : Nat} {room cost : Int} {fwd : Bool}
    (hE : Edge l on ⟨a, arc, room, fwd, true, d + 1⟩ a b) :
    BI l on n d sts0 (visR d r a b arc room cost fwd).1 ∧ (kn sts0 a = true → dp sts0 a = d → kn (visR d r a b arc room cost fwd).1 b = true) ∧ ∀ v, kn r.1 v = true → kn (visR d r a b arc room cost fwd).1 v = true := by
  have hbl : b < r.1.length := by rw [h.len]; exact hb
  unfold visR
  simp only [Int.toNat_natCast]
  by_cases hc : visC d r a b = true
  · simp only [hc, if_true]
    unfold visC at hc
    simp only [Bool.and_eq_true, Bool.not_eq_true', decide_eq_true_eq] at hc
    obtain ⟨⟨⟨h1, h2⟩, h3⟩, _⟩ := hc
    have hka : kn sts0 a = true := by
      cases hk : kn sts0 a with
      | true => rfl
      | false => have := (h.new a ha h1 hk).1; unfold dp at this; omega
    have hea := h.old a ha hka
    refine ⟨⟨by simp [h.len], fun v hv hkv => ?_, fun v hv hkv hk0 => ?_⟩, fun _ _ => by simp [kn, hbl], fun v hv => ?_⟩
    · rw [getD_set hbl]
      split
      · rename_i he; subst he
        have := h.old b hv hkv
        unfold kn at hkv
        rw [this] at h3; rw [h3] at hkv; cases hkv
      · exact h.old v hv hkv
    · unfold dp
      rw [getD_set hbl]
      by_cases he : b = v
      · subst he
        simp only [if_true]
        exact ⟨trivial, a, ha, hka, by rw [← hea]; exact h2, hE⟩
      · simp only [if_neg he]
        have hkv' : kn r.1 v = true := by unfold kn at hkv ⊢; rw [getD_set hbl, if_neg he] at hkv; exact hkv
        exact h.new v hv hkv' hk0
    · unfold kn at hv ⊢
      rw [getD_set hbl]; split
      · rfl
      · exact hv
  · simp only [hc]
    refine ⟨h, fun hka hda => ?_, fun _ hv => hv⟩
    have hea := h.old a ha hka
    cases hkb : kn r.1 b with
    | true => simpa using hkb
    | false =>
      exfalso; apply hc
      unfold visC
      unfold kn at hkb hka
      unfold dp at hda
      simp only [hea, hka, hda, hkb, hbl, decide_true, Bool.not_false, Bool.and_self]
def Done (l : List Arc) (on : List Int) (d : Int) (sts0 r : List Step) (i : Nat) : Prop :=
  ∀ (h : i < l.length) (h2 : i < on.length), (on[i] < l[i].cap → kn sts0 l[i].f.toNat = true → dp sts0 l[i].f.toNat = d → kn r l[i].t.toNat = true) ∧ (0 < on[i] → kn sts0 l[i].t.toNat = true → dp sts0 l[i].t.toNat = d → kn r l[i].f.toNat = true)
theorem eachM_BI {l : List Arc} {on : List Int} {n : Nat} {d : Int} {sts0 : List Step} (hn : NodesOk n l) (hlen : on.length = l.length) (h0 : sts0.length = n) :
    ∀ k, k ≤ l.length → BI l on n d sts0 (eachM (visR d) l on k (sts0, false)).1 ∧ ∀ i, i < k → Done l on d sts0 (eachM (visR d) l on k (sts0, false)).1 i
  | 0, _ => ⟨⟨h0, fun _ _ _ => rfl, fun v _ h1 h2 => by rw [show kn sts0 v = true from h1] at h2; cases h2⟩, fun i hi => absurd hi (by omega)⟩
  | k + 1, hk => by
    obtain ⟨ih1, ih2⟩ := eachM_BI hn hlen h0 k (by omega)
    have hkl : k < l.length := by omega
    have hko : k < on.length := by omega
    rw [eachM_succ _ l on k _ hkl hko]
    generalize eachM (visR d) l on k (sts0, false) = r at ih1 ih2
    obtain ⟨⟨f0, f1⟩, t0, t1⟩ := hn l[k] (List.getElem_mem hkl)
    obtain ⟨a, ha⟩ := Int.eq_ofNat_of_zero_le f0
    obtain ⟨b, hb⟩ := Int.eq_ofNat_of_zero_le t0
    have han : a < n := by omega
    have hbn : b < n := by omega
    -- forwards
    have s1 : BI l on n d sts0 (eachF (visR d) k l[k] on[k] r).1 ∧ (on[k] < l[k].cap → kn sts0 a = true → dp sts0 a = d → kn (eachF (visR d) k l[k] on[k] r).1 b = true) ∧ ∀ v, kn r.1 v = true → kn (eachF (visR d) k l[k] on[k] r).1 v = true := by
      unfold eachF
      by_cases hc : on[k] < l[k].cap
      · rw [if_pos hc, ha, hb]
        have hE : Edge l on ⟨a, k, l[k].cap - on[k], true, true, d + 1⟩ a b := ⟨rfl, k, rfl, hkl, hko, fun _ => ⟨ha, hb, rfl, hc⟩, fun h => by cases h⟩
        obtain ⟨g1, g2, g3⟩ := vis_BI ih1 han hbn (cost := l[k].cost) hE
        exact ⟨g1, fun _ => g2, g3⟩
      · rw [if_neg hc]; exact ⟨ih1, fun h => absurd h hc, fun _ h => h⟩
    generalize eachF (visR d) k l[k] on[k] r = r1 at s1
    obtain ⟨b1, d1, m1⟩ := s1
    have s2 : BI l on n d sts0 (eachB (visR d) k l[k] on[k] r1).1 ∧ (0 < on[k] → kn sts0 b = true → dp sts0 b = d → kn (eachB (visR d) k l[k] on[k] r1).1 a = true) ∧ ∀ v, kn r1.1 v = true → kn (eachB (visR d) k l[k] on[k] r1).1 v = true := by
      unfold eachB
      by_cases hc : 0 < on[k]
      · rw [if_pos hc, ha, hb]
        have hE : Edge l on ⟨b, k, on[k], false, true, d + 1⟩ b a := ⟨rfl, k, rfl, hkl, hko, (fun h => by cases h), fun _ => ⟨hb, ha, rfl, hc⟩⟩
        obtain ⟨g1, g2, g3⟩ := vis_BI b1 hbn han (cost := -l[k].cost) hE
        exact ⟨g1, fun _ => g2, g3⟩
      · rw [if_neg hc]; exact ⟨b1, fun h => absurd h hc, fun _ h => h⟩
    obtain ⟨b2, d2, m2⟩ := s2
    refine ⟨b2, fun i hi h h2 => ?_⟩
    rcases Nat.lt_succ_iff_lt_or_eq.1 hi with hlt | rfl
    · obtain ⟨q1, q2⟩ := ih2 i hlt h h2
      exact ⟨fun u1 u2 u3 => m2 _ (m1 _ (q1 u1 u2 u3)), fun u1 u2 u3 => m2 _ (m1 _ (q2 u1 u2 u3))⟩
    · rw [ha, hb]
      simp only [Int.toNat_natCast]
      exact ⟨fun u1 u2 u3 => m2 _ (d1 u1 u2 u3), d2⟩
/-- what is known at the head of a round -/
structure GI (l : List Arc) (on : List Int) (n s : Nat) (d : Int) (sts : List Step) : Prop where
  len : sts.length = n
  src : kn sts s = true
  bd : ∀ v, v < n → kn sts v = true → 0 ≤ dp sts v ∧ dp sts v ≤ d
  edge : ∀ v, v < n → kn sts v = true → v ≠ s → ∃ p, p < n ∧ kn sts p = true ∧ dp sts p < dp sts v ∧ Edge l on (sts.getD v default) p v
  clo : ∀ i (h : i < l.length) (h2 : i < on.length), (on[i] < l[i].cap → kn sts l[i].f.toNat = true → dp sts l[i].f.toNat < d → kn sts l[i].t.toNat = true) ∧ (0 < on[i] → kn sts l[i].t.toNat = true → dp sts l[i].t.toNat < d → kn sts l[i].f.toNat = true)
theorem GI_step {l : List Arc} {on : List Int} {n s : Nat} {d : Int} {sts : List Step} (hn : NodesOk n l) (hlen : on.length = l.length) (h : GI l on n s d sts) (hs : s < n) (hd : 0 ≤ d) :
    GI l on n s (d + 1) (reachStep l on d sts).1 := by
  obtain ⟨hb, hdone⟩ := eachM_BI (d := d) hn hlen h.len l.length (Nat.le_refl _)
  have he : eachM (visR d) l on l.length (sts, false) = reachStep l on d sts := rfl
  rw [he] at hb hdone
  generalize (reachStep l on d sts).1 = r at hb hdone
  have hmono : ∀ v, v < n → kn sts v = true → kn r v = true ∧ dp r v = dp sts v := fun v hv hk => by
    have := hb.old v hv hk
    exact ⟨by unfold kn at hk ⊢; rw [this]; exact hk, by unfold dp; rw [this]⟩
  refine ⟨hb.len, (hmono s hs h.src).1, fun v hv hk => ?_, fun v hv hk hvs => ?_, fun i hi hi2 => ?_⟩
  · cases h0 : kn sts v with
    | true => have := h.bd v hv h0; rw [(hmono v hv h0).2]; omega
    | false => have := (hb.new v hv hk h0).1; omega
  · cases h0 : kn sts v with
    | true =>
      obtain ⟨p, hp, hkp, hdp, hE⟩ := h.edge v hv h0 hvs
      exact ⟨p, hp, (hmono p hp hkp).1, by rw [(hmono p hp hkp).2, (hmono v hv h0).2]; exact hdp, by rw [hb.old v hv h0]; exact hE⟩
    | false =>
      obtain ⟨h1, p, hp, hkp, hdp, hE⟩ := hb.new v hv hk h0
      exact ⟨p, hp, (hmono p hp hkp).1, by rw [(hmono p hp hkp).2]; omega, hE⟩
  · obtain ⟨⟨f0, f1⟩, t0, t1⟩ := hn l[i] (List.getElem_mem hi)
    have hfn : l[i].f.toNat < n := by omega
    have htn : l[i].t.toNat < n := by omega
    obtain ⟨c1, c2⟩ := h.clo i hi hi2
    obtain ⟨e1, e2⟩ := hdone i hi hi hi2
    have back : ∀ v, v < n → kn r v = true → dp r v < d + 1 → kn sts v = true ∧ dp sts v ≤ d := fun v hv hk hdv => by
      cases h0 : kn sts v with
      | true => exact ⟨rfl, (h.bd v hv h0).2⟩
      | false => have := (hb.new v hv hk h0).1; omega
    refine ⟨fun u1 u2 u3 => ?_, fun u1 u2 u3 => ?_⟩
    · obtain ⟨k1, k2⟩ := back _ hfn u2 u3
      by_cases hdd : dp sts l[i].f.toNat = d
      · exact e1 u1 k1 hdd
      · exact (hmono _ htn (c1 u1 k1 (by omega))).1
    · obtain ⟨k1, k2⟩ := back _ htn u2 u3
      by_cases hdd : dp sts l[i].t.toNat = d
      · exact e2 u1 k1 hdd
      · exact (hmono _ hfn (c2 u1 k1 (by omega))).1
/-- what reach gives -/
structure Reached (l : List Arc) (on : List Int) (n s : Nat) (sts : List Step) : Prop where
  len : sts.length = n
  src : kn sts s = true
  pos : ∀ v, v < n → kn sts v = true → 0 ≤ dp sts v ∧ dp sts v ≤ n
  edge : ∀ v, v < n → kn sts v = true → v ≠ s → ∃ p, p < n ∧ kn sts p = true ∧ dp sts p < dp sts v ∧ Edge l on (sts.getD v default) p v
  clo : ∀ i (h : i < l.length) (h2 : i < on.length), (on[i] < l[i].cap → kn sts l[i].f.toNat = true → kn sts l[i].t.toNat = true) ∧ (0 < on[i] → kn sts l[i].t.toNat = true → kn sts l[i].f.toNat = true)
theorem reachIter_spec {l : List Arc} {on : List Int} {n s : Nat} (hn : NodesOk n l) (hlen : on.length = l.length) (hs : s < n) : ∀ (f : Nat) (d : Int) (sts : List Step), 0 ≤ d → unk sts < f → d + unk sts ≤ n → GI l on n s d sts → Reached l on n s (reachIter l on f d sts)
  | 0, _, _, _, hu, _, _ => absurd hu (by omega)
  | f + 1, d, sts, hd, hu, hB, h => by
    have hstep := GI_step hn hlen h hs hd
    have hinv := reachStep_inv l on d sts
    rw [reachIter]
    cases hr : (reachStep l on d sts).2 with
    | true =>
      simp only [if_true]
      exact reachIter_spec hn hlen hs f (d + 1) _ (by omega) (by have := hinv.2.2 hr; omega) (by have := hinv.2.2 hr; omega) hstep
    | false =>
      have he := hinv.2.1 hr
      simp only [Bool.false_eq_true, if_false]
      rw [he] at hstep ⊢
      refine ⟨h.len, h.src, fun v hv hk => by have := h.bd v hv hk; omega, h.edge, fun i hi hi2 => ?_⟩
      obtain ⟨⟨f0, f1⟩, t0, t1⟩ := hn l[i] (List.getElem_mem hi)
      obtain ⟨c1, c2⟩ := hstep.clo i hi hi2
      exact ⟨fun u1 u2 => c1 u1 u2 (by have := (h.bd _ (show l[i].f.toNat < n by omega) u2).2; omega), fun u1 u2 => c2 u1 u2 (by have := (h.bd _ (show l[i].t.toNat < n by omega) u2).2; omega)⟩
theorem reachFin_spec {l : List Arc} {on : List Int} {n s : Nat} (hn : NodesOk n l) (hlen : on.length = l.length) (hs : s < n) : Reached l on n s (reachFin l on n s) := by
  have hk : ∀ v, v < n → (kn (reachInit n s) v = true ↔ v = s) ∧ (v = s → dp (reachInit n s) v = 0) := fun v hv => by
    unfold kn dp reachInit
    rw [getD_set (by simpa using hs)]
    by_cases h : s = v
    · subst h; simp
    · simp [h, hv, Ne.symm h]
  have hu1 : unk (reachInit n s) ≤ n := by
    have h1 : unk (reachInit n s) ≤ (reachInit n s).length := List.countP_le_length
    simpa [reachInit] using h1
  refine reachIter_spec hn hlen hs (n + 1) 0 _ (by omega) (by omega) (by omega) ⟨by simp [reachInit], ((hk s hs).1).2 rfl, fun v hv hkv => ?_, fun v hv hkv hvs => absurd (((hk v hv).1).1 hkv) hvs, fun i hi hi2 => ?_⟩
  · have := (hk v hv).2 (((hk v hv).1).1 hkv); omega
  · obtain ⟨⟨f0, f1⟩, t0, t1⟩ := hn l[i] (List.getElem_mem hi)
    refine ⟨fun _ u2 u3 => ?_, fun _ u2 u3 => ?_⟩
    · have := (hk _ (show l[i].f.toNat < n by omega)).2 (((hk _ (by omega)).1).1 u2); omega
    · have := (hk _ (show l[i].t.toNat < n by omega)).2 (((hk _ (by omega)).1).1 u2); omega
end Go.Proofs.Ytmkgfgnpgoegcaa
