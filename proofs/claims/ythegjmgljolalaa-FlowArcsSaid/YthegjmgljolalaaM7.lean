/-
  Plain: the set that a greatest flow leaves reachable is the same for all of them.
-/
import Derived.Test.YthegjmgljolalaaM1
set_option linter.all false
namespace Go.Proofs.Ythegjmgljolalaa
open Go Go.W

def Closed (l : List Arc) (on : List Int) (S : Nat → Bool) : Prop := ∀ i (h : i < l.length) (h2 : i < on.length),
  (on[i] < l[i].cap → S l[i].f.toNat = true → S l[i].t.toNat = true) ∧ (0 < on[i] → S l[i].t.toNat = true → S l[i].f.toNat = true)
/-- the least set with s that is closed under the arcs that can take more -/
structure ResSet (l : List Arc) (on : List Int) (n s : Nat) (R : Nat → Bool) : Prop where
  src : R s = true
  clo : Closed l on R
  least : ∀ S : Nat → Bool, S s = true → Closed l on S → ∀ v, v < n → R v = true → S v = true
theorem cut_tight (S : Int → Bool) : ∀ (l : List Arc) (on : List Int), VFlow l on → netOut (indB S) l on = cutCap S l → ∀ i (h : i < l.length) (h2 : i < on.length), (S l[i].f = true → S l[i].t = false → on[i] = l[i].cap) ∧ (S l[i].f = false → S l[i].t = true → on[i] = 0)
  | [], _, _, _, i, h, _ => by simp at h
  | _ :: _, [], _, _, i, _, h => by simp at h
  | a :: l, x :: on, hv, he, i, h, h2 => by
    have h0 := hv.bd 0 (by simp) (by simp)
    simp only [List.getElem_cons_zero] at h0
    have hv' : VFlow l on := ⟨by simpa using hv.len, fun i hi hi2 => hv.bd (i + 1) (Nat.succ_lt_succ hi) (Nat.succ_lt_succ hi2)⟩
    have hle := netOut_le_cut S l on hv'
    simp only [netOut, cutCap, indB] at he
    have hx : netOut (indB S) l on = cutCap S l ∧ ((S a.f = true → S a.t = false → x = a.cap) ∧ (S a.f = false → S a.t = true → x = 0)) := by
      cases hf : S a.f <;> cases ht : S a.t <;> simp [hf, ht] at he ⊢ <;> omega
    cases i with
    | zero => exact hx.2
    | succ i => exact cut_tight S l on hv' hx.1 i (by simpa using h) (by simpa using h2)
theorem cutCap_congr {n : Nat} {S S' : Int → Bool} : ∀ {l : List Arc}, NodesOk n l → (∀ u : Int, 0 ≤ u → u < n → S u = S' u) → cutCap S l = cutCap S' l
  | [], _, _ => rfl
  | a :: l, hn, h => by
    have h1 := hn a (List.mem_cons_self ..)
    have e1 := h a.f (by omega) (by omega)
    have e2 := h a.t (by omega) (by omega)
    simp only [cutCap]
    rw [cutCap_congr (fun b hb => hn b (List.mem_cons_of_mem _ hb)) h, e1, e2]
section
variable {l : List Arc} {n s t : Nat} {on on' : List Int} {amt : Int} {R R' : Nat → Bool}
theorem closed_cut (hn : NodesOk n l) (hs : s < n) (hf : IsFlow n l s t on amt) (h1 : R s = true) (h2 : R t = false) (hc : Closed l on R) : cutCap (fun u => R u.toNat) l = amt := by
  rw [← netOut_eq_cut _ l on hf.v.len fun i hi hi2 => ?_]
  · exact hf.set hn ⟨by omega, by omega⟩ (by simpa using h1) (by simpa using h2)
  · obtain ⟨c1, c2⟩ := hc i hi hi2
    have hb := hf.v.bd i hi hi2
    refine ⟨fun u1 u2 => ?_, fun u1 u2 => ?_⟩
    · rcases Int.lt_or_eq_of_le hb.2 with hlt | he
      · rw [c1 hlt u1] at u2; cases u2
      · exact he
    · rcases Int.lt_or_eq_of_le hb.1 with hlt | he
      · rw [c2 hlt u2] at u1; cases u1
      · exact he.symm
theorem res_sub (hn : NodesOk n l) (hs : s < n) (hf : IsFlow n l s t on amt) (hf' : IsFlow n l s t on' amt) (hR : ResSet l on n s R) (hR' : ResSet l on' n s R') (ht' : R' t = false) : ∀ v, v < n → R v = true → R' v = true := by
  refine hR.least R' hR'.src ?_
  have hcut := closed_cut hn hs hf' hR'.src ht' hR'.clo
  have hset := hf.set hn ⟨by omega, by omega⟩ (S := fun u => R' u.toNat) (by simpa using hR'.src) (by simpa using ht')
  intro i h h2
  obtain ⟨q1, q2⟩ := cut_tight _ l on hf.v (hset.trans hcut.symm) i h h2
  refine ⟨fun u1 u2 => ?_, fun u1 u2 => ?_⟩
  · cases hx : R' l[i].t.toNat with
    | true => rfl
    | false => have := q1 u2 hx; omega
  · cases hx : R' l[i].f.toNat with
    | true => rfl
    | false => have := q2 hx u2; omega
theorem ResSet.unique (hn : NodesOk n l) (hs : s < n) (hf : IsFlow n l s t on amt) (hf' : IsFlow n l s t on' amt) (hR : ResSet l on n s R) (hR' : ResSet l on' n s R') (ht : R t = false) (ht' : R' t = false) : ∀ v, v < n → R v = R' v := fun v hv => by
  have h1 := res_sub hn hs hf hf' hR hR' ht' v hv
  have h2 := res_sub hn hs hf' hf hR' hR ht v hv
  cases hx : R v <;> cases hy : R' v <;> simp_all
theorem Reached.resSet {sts : List Step} (hn : NodesOk n l) (h : Reached l on n s sts) : ResSet l on n s (kn sts) := by
  refine ⟨h.src, h.clo, fun S hS hc v hv hk => ?_⟩
  have key : ∀ (m : Nat) (v : Nat), v < n → kn sts v = true → dp sts v ≤ m → S v = true := by
    intro m
    induction m with
    | zero =>
      intro v hv hk hm
      by_cases hvs : v = s
      · rw [hvs]; exact hS
      · obtain ⟨p, hp, hkp, hdp, _⟩ := h.edge v hv hk hvs
        have := (h.pos p hp hkp).1; omega
    | succ m ih =>
      intro v hv hk hm
      by_cases hvs : v = s
      · rw [hvs]; exact hS
      · obtain ⟨p, hp, hkp, hdp, hE⟩ := h.edge v hv hk hvs
        have hpS := ih p hp hkp (by omega)
        obtain ⟨_, ai, _, h1, h2, hf, hb⟩ := hE
        obtain ⟨c1, c2⟩ := hc ai h1 h2
        cases hx : (sts.getD v default).fwd with
        | true =>
          obtain ⟨g1, g2, _, g4⟩ := hf hx
          rw [g1, g2] at c1
          exact c1 g4 (by simpa using hpS)
        | false =>
          obtain ⟨g1, g2, _, g4⟩ := hb hx
          rw [g1, g2] at c2
          exact c2 g4 (by simpa using hpS)
  exact key n v hv hk (h.pos v hv hk).2
end
/-- what Cut returns, where nothing is wrong -/
def CutOk (m s d : Nat) (l : List Arc) (bs : List Bool) : Prop := bs.length = m ∧ ∃ (on : List Int) (amt : Int) (R : Nat → Bool), IsFlow m l s d on amt ∧ IsMax m l s d amt ∧ ResSet l on m s R ∧ R d = false ∧ ∀ v, v < m → bs.getD v false = R v
theorem CutOk.unique {m s d : Nat} {l : List Arc} {a b : List Bool} (hn : NodesOk m l) (hs : s < m) (ha : CutOk m s d l a) (hb : CutOk m s d l b) : a = b := by
  obtain ⟨a1, on, amt, R, a2, a3, a4, a5, a6⟩ := ha
  obtain ⟨b1, on', amt', R', b2, b3, b4, b5, b6⟩ := hb
  obtain rfl := IsMax.unique hn ⟨by omega, by omega⟩ a3 b3
  have hu := ResSet.unique hn hs a2 b2 a4 b4 a5 b5
  apply List.ext_getElem (by omega)
  intro i h h2
  have h3 := a6 i (by omega)
  have h4 := b6 i (by omega)
  rw [List.getD_eq_getElem?_getD, List.getElem?_eq_getElem h] at h3
  rw [List.getD_eq_getElem?_getD, List.getElem?_eq_getElem h2] at h4
  simp only [Option.getD_some] at h3 h4
  rw [h3, h4]; exact hu i (by omega)
theorem CutOk.cap {m s d : Nat} {l : List Arc} {bs : List Bool} {amt : Int} (hn : NodesOk m l) (hs : s < m) (hd : d < m) (h : CutOk m s d l bs) (hm : IsMax m l s d amt) : bs.length = m ∧ bs.getD s false = true ∧ bs.getD d false = false ∧ cutCap (fun u => bs.getD u.toNat false) l = amt := by
  obtain ⟨a1, on, amt', R, a2, a3, a4, a5, a6⟩ := h
  obtain rfl := IsMax.unique hn ⟨by omega, by omega⟩ a3 hm
  refine ⟨a1, by rw [a6 s hs]; exact a4.src, by rw [a6 d hd]; exact a5, ?_⟩
  rw [← closed_cut hn hs a2 a4.src a5 a4.clo]
  exact cutCap_congr hn fun u h1 h2 => a6 u.toNat (by omega)
end Go.Proofs.Ythegjmgljolalaa
