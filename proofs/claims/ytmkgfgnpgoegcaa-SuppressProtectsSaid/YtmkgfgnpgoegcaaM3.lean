/-
  Plain: from what reach finds to a greater flow, or to a proof that there is none.
-/
import Derived.Test.YtmkgfgnpgoegcaaM2
set_option linter.all false
namespace Go.Proofs.Ytmkgfgnpgoegcaa
open Go Go.W

def Path (l : List Arc) (on : List Int) (n s : Nat) (sts : List Step) : List Nat → Nat → Prop
  | [], k => k = s
  | x :: xs, k => k = x ∧ k ≠ s ∧ k < n ∧ ∃ p, p < n ∧ dp sts p < dp sts k ∧ Edge l on (sts.getD k default) p k ∧ Path l on n s sts xs p
theorem path_of {l : List Arc} {on : List Int} {n s : Nat} {sts : List Step} (h : Reached l on n s sts) : ∀ (m : Nat) (v : Nat), v < n → kn sts v = true → dp sts v ≤ m → ∃ ks, ks.length ≤ m ∧ Path l on n s sts ks v
  | 0, v, hv, hk, hm => by
    by_cases hvs : v = s
    · exact ⟨[], by simp, hvs⟩
    · obtain ⟨p, hp, hkp, hdp, _⟩ := h.edge v hv hk hvs
      have := (h.pos p hp hkp).1; omega
  | m + 1, v, hv, hk, hm => by
    by_cases hvs : v = s
    · exact ⟨[], by simp, hvs⟩
    · obtain ⟨p, hp, hkp, hdp, hE⟩ := h.edge v hv hk hvs
      obtain ⟨ks, hl, hP⟩ := path_of h m p hp hkp (by omega)
      exact ⟨v :: ks, by simp; omega, rfl, hvs, hv, p, hp, hdp, hE, hP⟩
theorem Path.chain {l : List Arc} {on : List Int} {n s : Nat} {sts : List Step} (hlen : sts.length = n) (hol : on.length = l.length) : ∀ {ks : List Nat} {v : Nat}, Path l on n s sts ks v → Chain sts s on.length ks v
  | [], _, h => h
  | x :: xs, v, ⟨h1, h2, h3, p, hp, hdp, hE, hP⟩ => by
    obtain ⟨e1, ai, e2, e3, e4, _⟩ := hE
    exact ⟨h1, h2, by omega, p, ai, e1, e2, by omega, Path.chain hlen hol hP⟩
/-- all nodes of a path lie at most as deep as its first -/
theorem Path.deep {l : List Arc} {on : List Int} {n s : Nat} {sts : List Step} : ∀ {ks : List Nat} {v : Nat}, Path l on n s sts ks v → ∀ x ∈ ks, dp sts x ≤ dp sts v
  | [], _, _, x, hx => by cases hx
  | y :: xs, v, ⟨h1, _, _, p, _, hdp, _, hP⟩, x, hx => by
    rcases List.mem_cons.1 hx with rfl | hx
    · rw [h1]; exact Int.le_refl _
    · have := Path.deep hP x hx; omega
theorem Path.edge {l : List Arc} {on : List Int} {n s : Nat} {sts : List Step} : ∀ {ks : List Nat} {v : Nat}, Path l on n s sts ks v → ∀ x ∈ ks, ∃ p, dp sts p < dp sts x ∧ Edge l on (sts.getD x default) p x
  | [], _, _, x, hx => by cases hx
  | y :: xs, v, ⟨h1, _, _, p, _, hdp, hE, hP⟩, x, hx => by
    rcases List.mem_cons.1 hx with rfl | hx
    · subst h1; exact ⟨p, hdp, hE⟩
    · exact Path.edge hP x hx
/-- two nodes of different depth are not reached over one arc -/
theorem edge_apart {l : List Arc} {on : List Int} {sts : List Step} {x y px py : Nat} (hx : Edge l on (sts.getD x default) px x) (hy : Edge l on (sts.getD y default) py y) (dx : dp sts px < dp sts x) (dy : dp sts py < dp sts y)
    (hlt : dp sts x < dp sts y) : (sts.getD x default).arc ≠ (sts.getD y default).arc := by
  obtain ⟨_, ax, ex, hx1, hx2, fx, bx⟩ := hx
  obtain ⟨_, ay, ey, hy1, hy2, fy, by_⟩ := hy
  intro he
  rw [ex, ey] at he
  have he : ax = ay := by omega
  subst he
  cases h1 : (sts.getD x default).fwd <;> cases h2 : (sts.getD y default).fwd
  · have g1 := bx h1; have g2 := by_ h2
    have : x = y := by omega
    subst this; omega
  · have g1 := bx h1; have g2 := fy h2
    have e1 : x = py := by omega
    have e2 : px = y := by omega
    subst e1 e2; omega
  · have g1 := fx h1; have g2 := by_ h2
    have e1 : x = py := by omega
    have e2 : px = y := by omega
    subst e1 e2; omega
  · have g1 := fx h1; have g2 := fy h2
    have : x = y := by omega
    subst this; omega
theorem minI_le (a b : Int) : minI a b ≤ a ∧ minI a b ≤ b ∧ (0 < a → 0 < b → 0 < minI a b) := by unfold minI; split <;> omega
theorem pushMin_spec (sts : List Step) : ∀ (ks : List Nat) (m : Int), 0 < m → (∀ x ∈ ks, 0 < (sts.getD x default).room) → 0 < pushMin sts ks m ∧ pushMin sts ks m ≤ m ∧ ∀ x ∈ ks, pushMin sts ks m ≤ (sts.getD x default).room
  | [], m, hm, _ => ⟨hm, Int.le_refl _, fun x hx => by cases hx⟩
  | k :: ks, m, hm, h => by
    have h1 := minI_le m (sts.getD k default).room
    obtain ⟨g1, g2, g3⟩ := pushMin_spec sts ks (minI m (sts.getD k default).room) (h1.2.2 hm (h k (List.mem_cons_self ..))) fun x hx => h x (List.mem_cons_of_mem _ hx)
    have e : pushMin sts (k :: ks) m = pushMin sts ks (minI m (sts.getD k default).room) := rfl
    rw [e]
    refine ⟨g1, by omega, fun x hx => ?_⟩
    rcases List.mem_cons.1 hx with rfl | hx
    · omega
    · exact g3 x hx
theorem Edge.room_pos {l : List Arc} {on : List Int} {x : Step} {p v : Nat} (h : Edge l on x p v) : 0 < x.room := by
  obtain ⟨_, ai, _, h1, h2, hf, hb⟩ := h
  cases hx : x.fwd with
  | true => have := hf hx; omega
  | false => have := hb hx; omega
theorem push_flow {l : List Arc} {on : List Int} {n s : Nat} {sts : List Step} {M : Int} (hM : 0 ≤ M) (pot : Int → Int) : ∀ (ks : List Nat) (v : Nat) (on0 : List Int), Path l on n s sts ks v → (∀ x ∈ ks, M ≤ (sts.getD x default).room) → VFlow l on0 →
    (∀ x ∈ ks, on0.getD (sts.getD x default).arc.toNat 0 = on.getD (sts.getD x default).arc.toNat 0) →
    VFlow l (pushOn sts ks M on0) ∧ netOut pot l (pushOn sts ks M on0) = netOut pot l on0 + M * (pot s - pot v)
  | [], v, on0, hP, _, hv, _ => by
    have : v = s := hP
    subst this
    exact ⟨hv, by simp [pushOn]⟩
  | k :: ks, v, on0, ⟨h1, h2, h3, p, hp, hdp, hE, hP⟩, hr, hv, hag => by
    subst h1
    have hE0 := hE
    obtain ⟨e1, ai, e2, e3, e4, hf, hb⟩ := hE
    have hlen := hv.len
    have hai : ai < on0.length := by omega
    have hrv := hr v (List.mem_cons_self ..)
    have hagv := hag v (List.mem_cons_self ..)
    have hbd := hv.bd ai e3 hai
    rw [e2] at hagv
    simp only [Int.toNat_natCast, List.getD_eq_getElem?_getD, List.getElem?_eq_getElem hai, List.getElem?_eq_getElem e4, Option.getD_some] at hagv
    -- the new list
    obtain ⟨y, hy, hy0, hy1, hyn⟩ : ∃ y, push1 sts M on0 v = on0.set ai y ∧ 0 ≤ y ∧ y ≤ l[ai].cap ∧ (y - on0[ai]) * (pot l[ai].f - pot l[ai].t) = M * (pot p - pot v) := by
      have hg : on0.getD ai 0 = on0[ai] := by simp [hai]
      cases hx : (sts.getD v default).fwd with
      | true =>
        obtain ⟨g1, g2, g3, g4⟩ := hf hx
        refine ⟨on0[ai] + M, by simp only [push1, e2, Int.toNat_natCast, hx, if_true, hg], by omega, by omega, ?_⟩
        rw [g1, g2, show on0[ai] + M - on0[ai] = M by omega]
      | false =>
        obtain ⟨g1, g2, g3, g4⟩ := hb hx
        refine ⟨on0[ai] - M, by simp only [push1, e2, Int.toNat_natCast, hx, hg]; rfl, by omega, by omega, ?_⟩
        rw [g1, g2, show on0[ai] - M - on0[ai] = -M by omega, Int.neg_mul, ← Int.mul_neg, Int.neg_sub]
    have hv1 : VFlow l (push1 sts M on0 v) := by
      rw [hy]
      refine ⟨by simpa using hlen, fun i h h' => ?_⟩
      rw [List.getElem_set]
      split
      · rename_i he; subst he; exact ⟨hy0, hy1⟩
      · exact hv.bd i h (by simpa using h')
    have hag1 : ∀ x ∈ ks, (push1 sts M on0 v).getD (sts.getD x default).arc.toNat 0 = on.getD (sts.getD x default).arc.toNat 0 := by
      intro x hx
      rw [← hag x (List.mem_cons_of_mem _ hx), hy]
      obtain ⟨px, dpx, hEx⟩ := Path.edge hP x hx
      have hdx := Path.deep hP x hx
      have hne := edge_apart hEx hE0 dpx hdp (by omega)
      obtain ⟨_, ax, ex2, _⟩ := hEx
      rw [e2, ex2] at hne
      rw [ex2]
      have : ai ≠ ax := by omega
      simp [List.getElem?_set, this]
    obtain ⟨i1, i2⟩ := push_flow hM pot ks p (push1 sts M on0 v) hP (fun x hx => hr x (List.mem_cons_of_mem _ hx)) hv1 hag1
    have e : pushOn sts (v :: ks) M on0 = pushOn sts ks M (push1 sts M on0 v) := rfl
    rw [e]
    refine ⟨i1, ?_⟩
    rw [i2, hy, netOut_set pot l on0 ai y e3 hai, hyn, Int.mul_sub, Int.mul_sub, Int.mul_sub]
    omega
/-- a push towards t along a path makes a flow of a greater amount -/
theorem push_isFlow {l : List Arc} {on : List Int} {n s t : Nat} {sts : List Step} {M amt : Int} (hM : 0 ≤ M) (hst : s ≠ t) {ks : List Nat} (hP : Path l on n s sts ks t) (hr : ∀ x ∈ ks, M ≤ (sts.getD x default).room) (hf : IsFlow n l s t on amt) :
    IsFlow n l s t (pushOn sts ks M on) (amt + M) := by
  have hv := (push_flow hM (fun _ => 0) ks t on hP hr hf.v fun _ _ => rfl).1
  have hpot := fun pot => (push_flow hM pot ks t on hP hr hf.v fun _ _ => rfl).2
  refine ⟨hv, fun u h0 h1 h2 h3 => ?_, ?_⟩
  · rw [hpot, hf.cons u h0 h1 h2 h3]
    have e1 : ind u (s : Int) = 0 := if_neg (fun h => h2 h.symm)
    have e2 : ind u (t : Int) = 0 := if_neg (fun h => h3 h.symm)
    rw [e1, e2]; simp
  · rw [hpot, hf.amt]
    have e1 : ind (s : Int) (s : Int) = 1 := if_pos rfl
    have e2 : ind (s : Int) (t : Int) = 0 := if_neg (by omega)
    rw [e1, e2]; omega
/-- where t is not reached, the flow is greatest -/
theorem reached_isMax {l : List Arc} {on : List Int} {n s t : Nat} {sts : List Step} {amt : Int} (hn : NodesOk n l) (hs : s < n) (h : Reached l on n s sts) (hf : IsFlow n l s t on amt) (ht : kn sts t = false) : IsMax n l s t amt := by
  refine ⟨⟨on, hf⟩, fun u => kn sts u.toNat, by simpa using h.src, by simpa using ht, ?_⟩
  rw [← netOut_eq_cut _ l on hf.v.len fun i hi hi2 => ?_]
  · exact hf.set hn ⟨by omega, by omega⟩ (by simpa using h.src) (by simpa using ht)
  · obtain ⟨c1, c2⟩ := h.clo i hi hi2
    have hb := hf.v.bd i hi hi2
    refine ⟨fun u1 u2 => ?_, fun u1 u2 => ?_⟩
    · rcases Int.lt_or_eq_of_le hb.2 with hlt | he
      · rw [c1 hlt u1] at u2; cases u2
      · exact he
    · rcases Int.lt_or_eq_of_le hb.1 with hlt | he
      · rw [c2 hlt u2] at u1; cases u1
      · exact he.symm
theorem zero_isFlow {n : Nat} {l : List Arc} {s t : Int} (hc : ∀ a ∈ l, 0 ≤ a.cap) : IsFlow n l s t (List.replicate l.length 0) 0 := by
  have hz : ∀ (p : Int → Int) (l : List Arc), netOut p l (List.replicate l.length 0) = 0 := by
    intro p l
    induction l with
    | nil => rfl
    | cons a l ih => simp [List.replicate_succ, netOut, ih]
  exact ⟨⟨by simp, fun i h h2 => by simp; exact hc _ (List.getElem_mem h)⟩, fun u _ _ _ _ => hz _ l, hz _ l⟩
end Go.Proofs.Ytmkgfgnpgoegcaa
