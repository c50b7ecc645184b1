/-
 Plain: what reach finds: a set closed under the arcs that can take more, each node with the arc by which it was reached.
-/
import Derived.Test.YthobaaefdehoiaaGreatT12
import Derived.Test.YthobaaefdehoiaaGreatPtr
set_option linter.all false
namespace Go.Proofs.YthobaaefdehoiaaGreat.Flo
open Go Go.W
def kn (sts : List Step) (v : Nat) : Bool := (sts.getD v default).known
def dp (sts : List Step) (v : Nat) : Int := (sts.getD v default).depth
def Edge (l : List Arc) (on : List Int) (x : Step) (p v : Nat) : Prop :=
 x.from_ = p ∧ ∃ ai : Nat, x.arc = ai ∧ ∃ (h : ai < l.length) (h2 : ai < on.length),
  (x.fwd = true → l[ai].f = p ∧ l[ai].t = v ∧ x.room = l[ai].cap - on[ai] ∧ on[ai] < l[ai].cap) ∧ (x.fwd = false → l[ai].t = p ∧ l[ai].f = v ∧ x.room = on[ai] ∧ 0 < on[ai])
structure BI (l : List Arc) (on : List Int) (n : Nat) (d : Int) (sts0 r : List Step) : Prop where
 len : r.length = n
 old : ∀ v, v < n → kn sts0 v = true → r.getD v default = sts0.getD v default
 new : ∀ v, v < n → kn r v = true → kn sts0 v = false → dp r v = d + 1 ∧ ∃ p, p < n ∧ kn sts0 p = true ∧ dp sts0 p = d ∧ Edge l on (r.getD v default) p v
theorem getD_set {sts : List Step} {b v : Nat} {x : Step} (hb : b < sts.length) : (sts.set b x).getD v default = if b = v then x else sts.getD v default := by
 by_cases h : b = v
 ·subst h; simp [hb]
 ·simp [h, List.getElem?_set]
theorem vis_BI {l : List Arc} {on : List Int} {n : Nat} {d : Int} {sts0 : List Step} {r : RSt} (h : BI l on n d sts0 r.1) {a b : Nat} (ha : a < n) (hb : b < n) {arc : Nat} {room cost : Int} {fwd : Bool}
  (hE : Edge l on ⟨a, arc, room, fwd, true, d + 1⟩ a b) :
  BI l on n d sts0 (visR d r a b arc room cost fwd).1 ∧ (kn sts0 a = true → dp sts0 a = d → kn (visR d r a b arc room cost fwd).1 b = true) ∧ ∀ v, kn r.1 v = true → kn (visR d r a b arc room cost fwd).1 v = true := by
 have hbl : b < r.1.length := by rw [h.len]; exact hb
 unfold visR
 simp only [Int.toNat_natCast]
 by_cases hc : visC d r a b = true
 ·simp only [hc, if_true]
  unfold visC at hc
  simp only [Bool.and_eq_true, Bool.not_eq_true', decide_eq_true_eq] at hc
  obtain ⟨⟨⟨h1, h2⟩, h3⟩, _⟩ := hc
  have hka : kn sts0 a = true := by
   cases hk : kn sts0 a with
   | true => rfl
   | false => have := (h.new a ha h1 hk).1; unfold dp at this; omega
  have hea := h.old a ha hka
  refine ⟨⟨by simp [h.len], fun v hv hkv => ?_, fun v hv hkv hk0 => ?_⟩, fun _ _ => by simp [kn, hbl], fun v hv => ?_⟩
  ·rw [getD_set hbl]
   split
   ·rename_i he; subst he
    have := h.old b hv hkv
    unfold kn at hkv
    rw [this] at h3; rw [h3] at hkv; cases hkv
   ·exact h.old v hv hkv
  ·unfold dp
   rw [getD_set hbl]
   by_cases he : b = v
   ·subst he
    simp only [if_true]
    exact ⟨trivial, a, ha, hka, by rw [← hea]; exact h2, hE⟩
   ·simp only [if_neg he]
    have hkv' : kn r.1 v = true := by unfold kn at hkv ⊢; rw [getD_set hbl, if_neg he] at hkv; exact hkv
    exact h.new v hv hkv' hk0
  ·unfold kn at hv ⊢
   rw [getD_set hbl]; split
   ·rfl
   ·exact hv
 ·simp only [hc]
  refine ⟨h, fun hka hda => ?_, fun _ hv => hv⟩
  have hea := h.old a ha hka
  cases hkb : kn r.1 b with
  | true => simpa using hkb
  | false =>
   exfalso; apply hc
   unfold visC
   unfold kn at hkb hka
   unfold dp at hda
   simp only [hea, hka, hda, hkb, hbl, decide_true, Bool.not_false, Bool.and_self]
def Done (l : List Arc) (on : List Int) (d : Int) (sts0 r : List Step) (i : Nat) : Prop :=
 ∀ (h : i < l.length) (h2 : i < on.length), (on[i] < l[i].cap → kn sts0 l[i].f.toNat = true → dp sts0 l[i].f.toNat = d → kn r l[i].t.toNat = true) ∧ (0 < on[i] → kn sts0 l[i].t.toNat = true → dp sts0 l[i].t.toNat = d → kn r l[i].f.toNat = true)
theorem eachM_BI {l : List Arc} {on : List Int} {n : Nat} {d : Int} {sts0 : List Step} (hn : NodesOk n l) (hlen : on.length = l.length) (h0 : sts0.length = n) :
  ∀ k, k ≤ l.length → BI l on n d sts0 (eachM (visR d) l on k (sts0, false)).1 ∧ ∀ i, i < k → Done l on d sts0 (eachM (visR d) l on k (sts0, false)).1 i
 | 0, _ => ⟨⟨h0, fun _ _ _ => rfl, fun v _ h1 h2 => by rw [show kn sts0 v = true from h1] at h2; cases h2⟩, fun i hi => absurd hi (by omega)⟩
 | k + 1, hk => by
  obtain ⟨ih1, ih2⟩ := eachM_BI hn hlen h0 k (by omega)
  have hkl : k < l.length := by omega
  have hko : k < on.length := by omega
  rw [eachM_succ _ l on k _ hkl hko]
  generalize eachM (visR d) l on k (sts0, false) = r at ih1 ih2
  obtain ⟨⟨f0, f1⟩, t0, t1⟩ := hn l[k] (List.getElem_mem hkl)
  obtain ⟨a, ha⟩ := Int.eq_ofNat_of_zero_le f0
  obtain ⟨b, hb⟩ := Int.eq_ofNat_of_zero_le t0
  have han : a < n := by omega
  have hbn : b < n := by omega
  -- forwards
  have s1 : BI l on n d sts0 (eachF (visR d) k l[k] on[k] r).1 ∧ (on[k] < l[k].cap → kn sts0 a = true → dp sts0 a = d → kn (eachF (visR d) k l[k] on[k] r).1 b = true) ∧ ∀ v, kn r.1 v = true → kn (eachF (visR d) k l[k] on[k] r).1 v = true := by
   unfold eachF
   by_cases hc : on[k] < l[k].cap
   ·rw [if_pos hc, ha, hb]
    have hE : Edge l on ⟨a, k, l[k].cap - on[k], true, true, d + 1⟩ a b := ⟨rfl, k, rfl, hkl, hko, fun _ => ⟨ha, hb, rfl, hc⟩, fun h => by cases h⟩
    obtain ⟨g1, g2, g3⟩ := vis_BI ih1 han hbn (cost := l[k].cost) hE
    exact ⟨g1, fun _ => g2, g3⟩
   ·rw [if_neg hc]; exact ⟨ih1, fun h => absurd h hc, fun _ h => h⟩
  generalize eachF (visR d) k l[k] on[k] r = r1 at s1
  obtain ⟨b1, d1, m1⟩ := s1
  have s2 : BI l on n d sts0 (eachB (visR d) k l[k] on[k] r1).1 ∧ (0 < on[k] → kn sts0 b = true → dp sts0 b = d → kn (eachB (visR d) k l[k] on[k] r1).1 a = true) ∧ ∀ v, kn r1.1 v = true → kn (eachB (visR d) k l[k] on[k] r1).1 v = true := by
   unfold eachB
   by_cases hc : 0 < on[k]
   ·rw [if_pos hc, ha, hb]
    have hE : Edge l on ⟨b, k, on[k], false, true, d + 1⟩ b a := ⟨rfl, k, rfl, hkl, hko, (fun h => by cases h), fun _ => ⟨hb, ha, rfl, hc⟩⟩
    obtain ⟨g1, g2, g3⟩ := vis_BI b1 hbn han (cost := -l[k].cost) hE
    exact ⟨g1, fun _ => g2, g3⟩
   ·rw [if_neg hc]; exact ⟨b1, fun h => absurd h hc, fun _ h => h⟩
  obtain ⟨b2, d2, m2⟩ := s2
  refine ⟨b2, fun i hi h h2 => ?_⟩
  rcases Nat.lt_succ_iff_lt_or_eq.1 hi with hlt | rfl
  ·obtain ⟨q1, q2⟩ := ih2 i hlt h h2
   exact ⟨fun u1 u2 u3 => m2 _ (m1 _ (q1 u1 u2 u3)), fun u1 u2 u3 => m2 _ (m1 _ (q2 u1 u2 u3))⟩
  ·rw [ha, hb]
   simp only [Int.toNat_natCast]
   exact ⟨fun u1 u2 u3 => m2 _ (d1 u1 u2 u3), d2⟩
structure GI (l : List Arc) (on : List Int) (n s : Nat) (d : Int) (sts : List Step) : Prop where
 len : sts.length = n
 src : kn sts s = true
 bd : ∀ v, v < n → kn sts v = true → 0 ≤ dp sts v ∧ dp sts v ≤ d
 edge : ∀ v, v < n → kn sts v = true → v ≠ s → ∃ p, p < n ∧ kn sts p = true ∧ dp sts p < dp sts v ∧ Edge l on (sts.getD v default) p v
 clo : ∀ i (h : i < l.length) (h2 : i < on.length), (on[i] < l[i].cap → kn sts l[i].f.toNat = true → dp sts l[i].f.toNat < d → kn sts l[i].t.toNat = true) ∧ (0 < on[i] → kn sts l[i].t.toNat = true → dp sts l[i].t.toNat < d → kn sts l[i].f.toNat = true)
theorem GI_step {l : List Arc} {on : List Int} {n s : Nat} {d : Int} {sts : List Step} (hn : NodesOk n l) (hlen : on.length = l.length) (h : GI l on n s d sts) (hs : s < n) (hd : 0 ≤ d) :
  GI l on n s (d + 1) (reachStep l on d sts).1 := by
 obtain ⟨hb, hdone⟩ := eachM_BI (d := d) hn hlen h.len l.length (Nat.le_refl _)
 have he : eachM (visR d) l on l.length (sts, false) = reachStep l on d sts := rfl
 rw [he] at hb hdone
 generalize (reachStep l on d sts).1 = r at hb hdone
 have hmono : ∀ v, v < n → kn sts v = true → kn r v = true ∧ dp r v = dp sts v := fun v hv hk => by
  have := hb.old v hv hk
  exact ⟨by unfold kn at hk ⊢; rw [this]; exact hk, by unfold dp; rw [this]⟩
 refine ⟨hb.len, (hmono s hs h.src).1, fun v hv hk => ?_, fun v hv hk hvs => ?_, fun i hi hi2 => ?_⟩
 ·cases h0 : kn sts v with
  | true => have := h.bd v hv h0; rw [(hmono v hv h0).2]; omega
  | false => have := (hb.new v hv hk h0).1; omega
 ·cases h0 : kn sts v with
  | true =>
   obtain ⟨p, hp, hkp, hdp, hE⟩ := h.edge v hv h0 hvs
   exact ⟨p, hp, (hmono p hp hkp).1, by rw [(hmono p hp hkp).2, (hmono v hv h0).2]; exact hdp, by rw [hb.old v hv h0]; exact hE⟩
  | false =>
   obtain ⟨h1, p, hp, hkp, hdp, hE⟩ := hb.new v hv hk h0
   exact ⟨p, hp, (hmono p hp hkp).1, by rw [(hmono p hp hkp).2]; omega, hE⟩
 ·obtain ⟨⟨f0, f1⟩, t0, t1⟩ := hn l[i] (List.getElem_mem hi)
  have hfn : l[i].f.toNat < n := by omega
  have htn : l[i].t.toNat < n := by omega
  obtain ⟨c1, c2⟩ := h.clo i hi hi2
  obtain ⟨e1, e2⟩ := hdone i hi hi hi2
  have back : ∀ v, v < n → kn r v = true → dp r v < d + 1 → kn sts v = true ∧ dp sts v ≤ d := fun v hv hk hdv => by
   cases h0 : kn sts v with
   | true => exact ⟨rfl, (h.bd v hv h0).2⟩
   | false => have := (hb.new v hv hk h0).1; omega
  refine ⟨fun u1 u2 u3 => ?_, fun u1 u2 u3 => ?_⟩
  ·obtain ⟨k1, k2⟩ := back _ hfn u2 u3
   by_cases hdd : dp sts l[i].f.toNat = d
   ·exact e1 u1 k1 hdd
   ·exact (hmono _ htn (c1 u1 k1 (by omega))).1
  ·obtain ⟨k1, k2⟩ := back _ htn u2 u3
   by_cases hdd : dp sts l[i].t.toNat = d
   ·exact e2 u1 k1 hdd
   ·exact (hmono _ hfn (c2 u1 k1 (by omega))).1
structure Reached (l : List Arc) (on : List Int) (n s : Nat) (sts : List Step) : Prop where
 len : sts.length = n
 src : kn sts s = true
 pos : ∀ v, v < n → kn sts v = true → 0 ≤ dp sts v ∧ dp sts v ≤ n
 edge : ∀ v, v < n → kn sts v = true → v ≠ s → ∃ p, p < n ∧ kn sts p = true ∧ dp sts p < dp sts v ∧ Edge l on (sts.getD v default) p v
 clo : ∀ i (h : i < l.length) (h2 : i < on.length), (on[i] < l[i].cap → kn sts l[i].f.toNat = true → kn sts l[i].t.toNat = true) ∧ (0 < on[i] → kn sts l[i].t.toNat = true → kn sts l[i].f.toNat = true)
theorem reachIter_spec {l : List Arc} {on : List Int} {n s : Nat} (hn : NodesOk n l) (hlen : on.length = l.length) (hs : s < n) : ∀ (f : Nat) (d : Int) (sts : List Step), 0 ≤ d → unk sts < f → d + unk sts ≤ n → GI l on n s d sts → Reached l on n s (reachIter l on f d sts)
 | 0, _, _, _, hu, _, _ => absurd hu (by omega)
 | f + 1, d, sts, hd, hu, hB, h => by
  have hstep := GI_step hn hlen h hs hd
  have hinv := reachStep_inv l on d sts
  rw [reachIter]
  cases hr : (reachStep l on d sts).2 with
  | true =>
   simp only [if_true]
   exact reachIter_spec hn hlen hs f (d + 1) _ (by omega) (by have := hinv.2.2 hr; omega) (by have := hinv.2.2 hr; omega) hstep
  | false =>
   have he := hinv.2.1 hr
   simp only [Bool.false_eq_true, if_false]
   rw [he] at hstep ⊢
   refine ⟨h.len, h.src, fun v hv hk => by have := h.bd v hv hk; omega, h.edge, fun i hi hi2 => ?_⟩
   obtain ⟨⟨f0, f1⟩, t0, t1⟩ := hn l[i] (List.getElem_mem hi)
   obtain ⟨c1, c2⟩ := hstep.clo i hi hi2
   exact ⟨fun u1 u2 => c1 u1 u2 (by have := (h.bd _ (show l[i].f.toNat < n by omega) u2).2; omega), fun u1 u2 => c2 u1 u2 (by have := (h.bd _ (show l[i].t.toNat < n by omega) u2).2; omega)⟩
theorem reachFin_spec {l : List Arc} {on : List Int} {n s : Nat} (hn : NodesOk n l) (hlen : on.length = l.length) (hs : s < n) : Reached l on n s (reachFin l on n s) := by
 have hk : ∀ v, v < n → (kn (reachInit n s) v = true ↔ v = s) ∧ (v = s → dp (reachInit n s) v = 0) := fun v hv => by
  unfold kn dp reachInit
  rw [getD_set (by simpa using hs)]
  by_cases h : s = v
  ·subst h; simp
  ·simp [h, hv, Ne.symm h]
 have hu1 : unk (reachInit n s) ≤ n := by
  have h1 : unk (reachInit n s) ≤ (reachInit n s).length := List.countP_le_length
  simpa [reachInit] using h1
 refine reachIter_spec hn hlen hs (n + 1) 0 _ (by omega) (by omega) (by omega) ⟨by simp [reachInit], ((hk s hs).1).2 rfl, fun v hv hkv => ?_, fun v hv hkv hvs => absurd (((hk v hv).1).1 hkv) hvs, fun i hi hi2 => ?_⟩
 ·have := (hk v hv).2 (((hk v hv).1).1 hkv); omega
 ·obtain ⟨⟨f0, f1⟩, t0, t1⟩ := hn l[i] (List.getElem_mem hi)
  refine ⟨fun _ u2 u3 => ?_, fun _ u2 u3 => ?_⟩
  ·have := (hk _ (show l[i].f.toNat < n by omega)).2 (((hk _ (by omega)).1).1 u2); omega
  ·have := (hk _ (show l[i].t.toNat < n by omega)).2 (((hk _ (by omega)).1).1 u2); omega
end Go.Proofs.YthobaaefdehoiaaGreat.Flo

/-
 Plain: from what reach finds to a greater flow, or to a proof that there is none.
-/
set_option linter.all false
namespace Go.Proofs.YthobaaefdehoiaaGreat.Flo
open Go Go.W
def Path (rk : Nat → Int) (l : List Arc) (on : List Int) (n s : Nat) (sts : List Step) : List Nat → Nat → Prop
 | [], k => k = s
 | x :: xs, k => k = x ∧ k ≠ s ∧ k < n ∧ ∃ p, p < n ∧ rk p < rk k ∧ Edge l on (sts.getD k default) p k ∧ Path rk l on n s sts xs p
structure Tree (rk : Nat → Int) (l : List Arc) (on : List Int) (n s : Nat) (sts : List Step) : Prop where
 pos : ∀ v, v < n → kn sts v = true → 0 ≤ rk v ∧ rk v ≤ n
 edge : ∀ v, v < n → kn sts v = true → v ≠ s → ∃ p, p < n ∧ kn sts p = true ∧ rk p < rk v ∧ Edge l on (sts.getD v default) p v
theorem Reached.tree {l : List Arc} {on : List Int} {n s : Nat} {sts : List Step} (h : Reached l on n s sts) : Tree (dp sts) l on n s sts := ⟨h.pos, h.edge⟩
theorem path_of {rk : Nat → Int} {l : List Arc} {on : List Int} {n s : Nat} {sts : List Step} (h : Tree rk l on n s sts) : ∀ (m : Nat) (v : Nat), v < n → kn sts v = true → rk v ≤ m → ∃ ks, ks.length ≤ m ∧ Path rk l on n s sts ks v
 | 0, v, hv, hk, hm => by
  by_cases hvs : v = s
  ·exact ⟨[], by simp, hvs⟩
  ·obtain ⟨p, hp, hkp, hdp, _⟩ := h.edge v hv hk hvs
   have := (h.pos p hp hkp).1; omega
 | m + 1, v, hv, hk, hm => by
  by_cases hvs : v = s
  ·exact ⟨[], by simp, hvs⟩
  ·obtain ⟨p, hp, hkp, hdp, hE⟩ := h.edge v hv hk hvs
   obtain ⟨ks, hl, hP⟩ := path_of h m p hp hkp (by omega)
   exact ⟨v :: ks, by simp; omega, rfl, hvs, hv, p, hp, hdp, hE, hP⟩
theorem Path.chain {rk : Nat → Int} {l : List Arc} {on : List Int} {n s : Nat} {sts : List Step} (hlen : sts.length = n) (hol : on.length = l.length) : ∀ {ks : List Nat} {v : Nat}, Path rk l on n s sts ks v → Chain sts s on.length ks v
 | [], _, h => h
 | x :: xs, v, ⟨h1, h2, h3, p, hp, hdp, hE, hP⟩ => by
  obtain ⟨e1, ai, e2, e3, e4, _⟩ := hE
  exact ⟨h1, h2, by omega, p, ai, e1, e2, by omega, Path.chain hlen hol hP⟩
theorem Path.deep {rk : Nat → Int} {l : List Arc} {on : List Int} {n s : Nat} {sts : List Step} : ∀ {ks : List Nat} {v : Nat}, Path rk l on n s sts ks v → ∀ x ∈ ks, rk x ≤ rk v
 | [], _, _, x, hx => by cases hx
 | y :: xs, v, ⟨h1, _, _, p, _, hdp, _, hP⟩, x, hx => by
  rcases List.mem_cons.1 hx with rfl | hx
  ·rw [h1]; exact Int.le_refl _
  ·have := Path.deep hP x hx; omega
theorem Path.edge {rk : Nat → Int} {l : List Arc} {on : List Int} {n s : Nat} {sts : List Step} : ∀ {ks : List Nat} {v : Nat}, Path rk l on n s sts ks v → ∀ x ∈ ks, ∃ p, rk p < rk x ∧ Edge l on (sts.getD x default) p x
 | [], _, _, x, hx => by cases hx
 | y :: xs, v, ⟨h1, _, _, p, _, hdp, hE, hP⟩, x, hx => by
  rcases List.mem_cons.1 hx with rfl | hx
  ·subst h1; exact ⟨p, hdp, hE⟩
  ·exact Path.edge hP x hx
theorem edge_apart {rk : Nat → Int} {l : List Arc} {on : List Int} {sts : List Step} {x y px py : Nat} (hx : Edge l on (sts.getD x default) px x) (hy : Edge l on (sts.getD y default) py y) (dx : rk px < rk x) (dy : rk py < rk y)
  (hlt : rk x < rk y) : (sts.getD x default).arc ≠ (sts.getD y default).arc := by
 obtain ⟨_, ax, ex, hx1, hx2, fx, bx⟩ := hx
 obtain ⟨_, ay, ey, hy1, hy2, fy, by_⟩ := hy
 intro he
 rw [ex, ey] at he
 have he : ax = ay := by omega
 subst he
 cases h1 : (sts.getD x default).fwd <;> cases h2 : (sts.getD y default).fwd
 ·have g1 := bx h1; have g2 := by_ h2
  have : x = y := by omega
  subst this; omega
 ·have g1 := bx h1; have g2 := fy h2
  have e1 : x = py := by omega
  have e2 : px = y := by omega
  subst e1 e2; omega
 ·have g1 := fx h1; have g2 := by_ h2
  have e1 : x = py := by omega
  have e2 : px = y := by omega
  subst e1 e2; omega
 ·have g1 := fx h1; have g2 := fy h2
  have : x = y := by omega
  subst this; omega
theorem minI_le (a b : Int) : minI a b ≤ a ∧ minI a b ≤ b ∧ (0 < a → 0 < b → 0 < minI a b) := by unfold minI; split <;> omega
theorem pushMin_spec (sts : List Step) : ∀ (ks : List Nat) (m : Int), 0 < m → (∀ x ∈ ks, 0 < (sts.getD x default).room) → 0 < pushMin sts ks m ∧ pushMin sts ks m ≤ m ∧ ∀ x ∈ ks, pushMin sts ks m ≤ (sts.getD x default).room
 | [], m, hm, _ => ⟨hm, Int.le_refl _, fun x hx => by cases hx⟩
 | k :: ks, m, hm, h => by
  have h1 := minI_le m (sts.getD k default).room
  obtain ⟨g1, g2, g3⟩ := pushMin_spec sts ks (minI m (sts.getD k default).room) (h1.2.2 hm (h k (List.mem_cons_self ..))) fun x hx => h x (List.mem_cons_of_mem _ hx)
  have e : pushMin sts (k :: ks) m = pushMin sts ks (minI m (sts.getD k default).room) := rfl
  rw [e]
  refine ⟨g1, by omega, fun x hx => ?_⟩
  rcases List.mem_cons.1 hx with rfl | hx
  ·omega
  ·exact g3 x hx
theorem Edge.room_pos {l : List Arc} {on : List Int} {x : Step} {p v : Nat} (h : Edge l on x p v) : 0 < x.room := by
 obtain ⟨_, ai, _, h1, h2, hf, hb⟩ := h
 cases hx : x.fwd with
 | true => have := hf hx; omega
 | false => have := hb hx; omega
theorem push_flow {rk : Nat → Int} {l : List Arc} {on : List Int} {n s : Nat} {sts : List Step} {M : Int} (hM : 0 ≤ M) (pot : Int → Int) : ∀ (ks : List Nat) (v : Nat) (on0 : List Int), Path rk l on n s sts ks v → (∀ x ∈ ks, M ≤ (sts.getD x default).room) → VFlow l on0 →
  (∀ x ∈ ks, on0.getD (sts.getD x default).arc.toNat 0 = on.getD (sts.getD x default).arc.toNat 0) →
  VFlow l (pushOn sts ks M on0) ∧ netOut pot l (pushOn sts ks M on0) = netOut pot l on0 + M * (pot s - pot v)
 | [], v, on0, hP, _, hv, _ => by
  have : v = s := hP
  subst this
  exact ⟨hv, by simp [pushOn]⟩
 | k :: ks, v, on0, ⟨h1, h2, h3, p, hp, hdp, hE, hP⟩, hr, hv, hag => by
  subst h1
  have hE0 := hE
  obtain ⟨e1, ai, e2, e3, e4, hf, hb⟩ := hE
  have hlen := hv.len
  have hai : ai < on0.length := by omega
  have hrv := hr v (List.mem_cons_self ..)
  have hagv := hag v (List.mem_cons_self ..)
  have hbd := hv.bd ai e3 hai
  rw [e2] at hagv
  simp only [Int.toNat_natCast, List.getD_eq_getElem?_getD, List.getElem?_eq_getElem hai, List.getElem?_eq_getElem e4, Option.getD_some] at hagv
  -- the new list
  obtain ⟨y, hy, hy0, hy1, hyn⟩ : ∃ y, push1 sts M on0 v = on0.set ai y ∧ 0 ≤ y ∧ y ≤ l[ai].cap ∧ (y - on0[ai]) * (pot l[ai].f - pot l[ai].t) = M * (pot p - pot v) := by
   have hg : on0.getD ai 0 = on0[ai] := by simp [hai]
   cases hx : (sts.getD v default).fwd with
   | true =>
    obtain ⟨g1, g2, g3, g4⟩ := hf hx
    refine ⟨on0[ai] + M, by simp only [push1, e2, Int.toNat_natCast, hx, if_true, hg], by omega, by omega, ?_⟩
    rw [g1, g2, show on0[ai] + M - on0[ai] = M by omega]
   | false =>
    obtain ⟨g1, g2, g3, g4⟩ := hb hx
    refine ⟨on0[ai] - M, by simp only [push1, e2, Int.toNat_natCast, hx, hg]; rfl, by omega, by omega, ?_⟩
    rw [g1, g2, show on0[ai] - M - on0[ai] = -M by omega, Int.neg_mul, ← Int.mul_neg, Int.neg_sub]
  have hv1 : VFlow l (push1 sts M on0 v) := by
   rw [hy]
   refine ⟨by simpa using hlen, fun i h h' => ?_⟩
   rw [List.getElem_set]
   split
   ·rename_i he; subst he; exact ⟨hy0, hy1⟩
   ·exact hv.bd i h (by simpa using h')
  have hag1 : ∀ x ∈ ks, (push1 sts M on0 v).getD (sts.getD x default).arc.toNat 0 = on.getD (sts.getD x default).arc.toNat 0 := by
   intro x hx
   rw [← hag x (List.mem_cons_of_mem _ hx), hy]
   obtain ⟨px, dpx, hEx⟩ := Path.edge hP x hx
   have hdx := Path.deep hP x hx
   have hne := edge_apart hEx hE0 dpx hdp (by omega)
   obtain ⟨_, ax, ex2, _⟩ := hEx
   rw [e2, ex2] at hne
   rw [ex2]
   have : ai ≠ ax := by omega
   simp [List.getElem?_set, this]
  obtain ⟨i1, i2⟩ := push_flow hM pot ks p (push1 sts M on0 v) hP (fun x hx => hr x (List.mem_cons_of_mem _ hx)) hv1 hag1
  have e : pushOn sts (v :: ks) M on0 = pushOn sts ks M (push1 sts M on0 v) := rfl
  rw [e]
  refine ⟨i1, ?_⟩
  rw [i2, hy, netOut_set pot l on0 ai y e3 hai, hyn, Int.mul_sub, Int.mul_sub, Int.mul_sub]
  omega
theorem push_isFlow {rk : Nat → Int} {l : List Arc} {on : List Int} {n s t : Nat} {sts : List Step} {M amt : Int} (hM : 0 ≤ M) (hst : s ≠ t) {ks : List Nat} (hP : Path rk l on n s sts ks t) (hr : ∀ x ∈ ks, M ≤ (sts.getD x default).room) (hf : IsFlow n l s t on amt) :
  IsFlow n l s t (pushOn sts ks M on) (amt + M) := by
 have hv := (push_flow hM (fun _ => 0) ks t on hP hr hf.v fun _ _ => rfl).1
 have hpot := fun pot => (push_flow hM pot ks t on hP hr hf.v fun _ _ => rfl).2
 refine ⟨hv, fun u h0 h1 h2 h3 => ?_, ?_⟩
 ·rw [hpot, hf.cons u h0 h1 h2 h3]
  have e1 : ind u (s : Int) = 0 := if_neg (fun h => h2 h.symm)
  have e2 : ind u (t : Int) = 0 := if_neg (fun h => h3 h.symm)
  rw [e1, e2]; simp
 ·rw [hpot, hf.amt]
  have e1 : ind (s : Int) (s : Int) = 1 := if_pos rfl
  have e2 : ind (s : Int) (t : Int) = 0 := if_neg (by omega)
  rw [e1, e2]; omega
theorem reached_isMax {l : List Arc} {on : List Int} {n s t : Nat} {sts : List Step} {amt : Int} (hn : NodesOk n l) (hs : s < n) (h : Reached l on n s sts) (hf : IsFlow n l s t on amt) (ht : kn sts t = false) : IsMax n l s t amt := by
 refine ⟨⟨on, hf⟩, fun u => kn sts u.toNat, by simpa using h.src, by simpa using ht, ?_⟩
 rw [← netOut_eq_cut _ l on hf.v.len fun i hi hi2 => ?_]
 ·exact hf.set hn ⟨by omega, by omega⟩ (by simpa using h.src) (by simpa using ht)
 ·obtain ⟨c1, c2⟩ := h.clo i hi hi2
  have hb := hf.v.bd i hi hi2
  refine ⟨fun u1 u2 => ?_, fun u1 u2 => ?_⟩
  ·rcases Int.lt_or_eq_of_le hb.2 with hlt | he
   ·rw [c1 hlt u1] at u2; cases u2
   ·exact he
  ·rcases Int.lt_or_eq_of_le hb.1 with hlt | he
   ·rw [c2 hlt u2] at u1; cases u1
   ·exact he.symm
theorem zero_isFlow {n : Nat} {l : List Arc} {s t : Int} (hc : ∀ a ∈ l, 0 ≤ a.cap) : IsFlow n l s t (List.replicate l.length 0) 0 := by
 have hz : ∀ (p : Int → Int) (l : List Arc), netOut p l (List.replicate l.length 0) = 0 := by
  intro p l
  induction l with
  | nil => rfl
  | cons a l ih => simp [List.replicate_succ, netOut, ih]
 exact ⟨⟨by simp, fun i h h2 => by simp; exact hc _ (List.getElem_mem h)⟩, fun u _ _ _ _ => hz _ l, hz _ l⟩
end Go.Proofs.YthobaaefdehoiaaGreat.Flo

/-
 Walks: greatest, Most.
-/
set_option linter.all false
namespace Go.Proofs.YthobaaefdehoiaaGreat.Flo
open Go Go.W Go.RowKit
structure NetOk (n : Nat) (l : List Arc) : Prop where
 n1 : 1 ≤ n
 n2 : n ≤ 64
 len : l.length ≤ 512
 nodes : NodesOk n l
 caps : ∀ a ∈ l, (0 ≤ a.cap ∧ a.cap ≤ 65536) ∧ (0 ≤ a.cost ∧ a.cost ≤ 65536)
theorem amt_le {n : Nat} {l : List Arc} {s t : Int} {on : List Int} {amt : Int} (hN : NetOk n l) (hs : 0 ≤ s ∧ s < n) (hst : s ≠ t) (hf : IsFlow n l s t on amt) : amt ≤ 65536 * l.length := by
 have h := weak_dual hf hN.nodes hs (S := fun u => decide (u = s)) (by simp) (by simp; omega)
 have := cutCap_le (fun u => decide (u = s)) l fun a ha => (hN.caps a ha).1
 omega
set_option maxHeartbeats 1000000 in
theorem flowGreatest (n s t : Nat) (A : Option Addr) (l : List Arc) (cap : Nat) (w0 : World) (hN : NetOk n l) (hs : s < n) (ht : t < n) (hst : s ≠ t) (hz : ArcsAt w0 A l) :
  Calls Tryz.prog 72 #[.agg #[I n, .slice A l.length cap], I s, I t] w0
   fun e w' => ∃ (gon : Nat) (on : List Int) (amt : Int), e = .returned (.tuple #[.agg #[I n, .slice A l.length cap, .slice (some ⟨gon, 0, none⟩) l.length l.length], I amt]) ∧ on.length = l.length ∧ IsFlow n l s t on amt ∧ IsMax n l s t amt ∧ SH w0 [] w' [⟨gon, 3, on.map I⟩] := by
 have H := SH.refl w0
 have hlen := hN.len
 have hn2 := hN.n2
 refine Calls.ofWPc Tryz.func72 rfl Tryz.results72 Tryz.ntmps72 rfl <| Y.qr <| Y.bx (cA rfl) H ?_
 clear H; intro g3 w H
 refine Y.al H rfl rfl ?_
 clear H; intro g6 w H
 refine Y.b rfl <| Y.z <| Y.q ?_
 refine WP.rheldC [8, 11, 12, 13, 14, 15, 16] (fun u w' => ∃ g8 g15 : Nat, u 8 = .pointer (some ⟨g8, 0, none⟩) ∧ SH w0 [] w' [⟨g8, 127, [I n, .slice A l.length cap, .slice (some ⟨g15, 0, none⟩) l.length l.length]⟩, ⟨g6, 127, [I 0, .slice none 0 0, .slice none 0 0]⟩, ⟨g15, 3, (List.replicate l.length 0).map I⟩]) mixed H ?_ ?_
 ·clear H; intro w hbw1 H
  refine Y.t 0 H rfl rfl (fun w H => Y.o H 1 rfl rfl) <| Y.t 1 H rfl rfl (fun w H => Y.f rfl rfl) <| Y.t 2 H rfl rfl (fun w H => Y.l H 1 rfl rfl rfl) <| Y.t 3 H rfl rfl (fun w H => Y.n rfl) ?_
  refine Y.A2 4 6 rfl rfl rfl ?_ ?_
  ·refine Y.mk H (sl_run rfl) ?_
   clear H; intro g15 w H
   refine Y.z <| ⟨(H.drop (List.sublist_cons_self _ _)), ?_⟩
   refine Y.t 5 (H.drop (List.sublist_cons_self _ _)) rfl rfl (fun w H => Ev.build (bld_127_0_1 rfl rfl)) <| Y.A1 6 rfl rfl <| Y.al H rfl rfl ?_
   clear H; intro g8 w H
   refine Y.z <| ⟨(H.drop ((List.sublist_cons_self _ _).trans (List.sublist_cons_self _ _))), ?_⟩
   refine Y.A1 7 rfl rfl <| Y.ss 0 H rfl (cA rfl) rfl ?_
   clear H; intro w H
   refine Y.z <| ⟨(H.drop ((List.sublist_cons_self _ _).trans (List.sublist_cons_self _ _))), ?_⟩
   refine Y.dn ?_
   refine ⟨Y.ag, g8, g15, rfl, ?_⟩; rw [← mkL_ones]; exact H.reidx [0, 2, 1] (by decide) rfl
  ·refine Y.al H rfl rfl ?_
   clear H; intro g8 w H
   refine Y.z <| ⟨(H.drop (List.sublist_cons_self _ _)), ?_⟩
   refine Y.A1 4 rfl rfl <| Y.mk H (sl_run rfl) ?_
   clear H; intro g15 w H
   refine Y.z <| ⟨(H.drop ((List.sublist_cons_self _ _).trans (List.sublist_cons_self _ _))), ?_⟩
   refine Y.t 5 (H.drop ((List.sublist_cons_self _ _).trans (List.sublist_cons_self _ _))) rfl rfl (fun w H => Ev.build (bld_127_0_1 rfl rfl)) <| Y.A1 7 rfl rfl <| Y.ss 1 H rfl (cA rfl) rfl ?_
   clear H; intro w H
   refine Y.z <| ⟨(H.drop ((List.sublist_cons_self _ _).trans (List.sublist_cons_self _ _))), ?_⟩
   refine Y.dn ?_
   refine ⟨Y.ag, g8, g15, rfl, ?_⟩; rw [← mkL_ones]; exact H.reidx [1, 2, 0] (by decide) rfl
 clear H
 rintro u w ⟨g8, g15, h8, H⟩
 refine WP.know (t := 8) h8 <| Y.qr <| Y.b rfl <| Y.z <| WP.block <| WP.loop [7, 9, 10, 17, 18, 19, 20, 21, 22, 23, 24, 25, 26, 27, 28, 29, 30, 31, 32, 33, 34] (fun k e w' => ∃ (on : List Int) (amt : Int), on.length = l.length ∧ e 9 = I amt ∧ 0 ≤ amt ∧ IsFlow n l s t on amt ∧ amt + k = 65536 * l.length ∧ SH w0 [] w' [⟨g8, 127, [I n, .slice A l.length cap, .slice (some ⟨g15, 0, none⟩) l.length l.length]⟩, ⟨g6, 127, [I 0, .slice none 0 0, .slice none 0 0]⟩, ⟨g15, 3, on.map I⟩]) (65536 * l.length) (⟨List.replicate l.length 0, 0, by simp, rfl, by omega, zero_isFlow fun a ha => (hN.caps a ha).1.1, by simp, H⟩) ?_
 clear H
 rintro k u2 w ⟨on, amt, hol, h9, ham, hfl, hk, H⟩
 refine WP.know (t := 9) h9 ?_
 have hamt := amt_le hN ⟨by omega, by omega⟩ (by omega) hfl
 have hob : ∀ i (h : i < on.length), 0 ≤ on[i] ∧ on[i] ≤ 65536 := fun i h => by
  have h1 := hfl.v.bd i (by omega) h
  have h2 := (hN.caps l[i] (List.getElem_mem (by omega))).1
  omega
 have hsp := reachFin_spec (s := s) (on := on) hN.nodes hol hs
 refine WP.block <| Y.qr <| Y.v (Y.o H 0 rfl rfl) <| Y.a rfl ?_
 have hfr := flowReach n s A (some ⟨g15, 0, none⟩) l on cap l.length w hs hn2 (hz.sh H) (onesOwn H 2 rfl) hol (by omega) (fun i h => by have := hN.caps l[i] (List.getElem_mem h); omega) (fun i h => by have := hob i h; omega) (fun i h => hN.nodes l[i] (List.getElem_mem h))
 rw [hol] at hfr
 refine OPS.call (d := some 19) rfl rfl rfl (EvC.func (fun_run rfl)) (hfr) ?_
 rintro _ w ⟨ga, rfl, Hc⟩
 refine ⟨_, rfl, ?_⟩
 replace H := SH.call (L1 := [⟨g8, 127, [I n, .slice A l.length cap, .slice (some ⟨g15, 0, none⟩) l.length l.length]⟩, ⟨g6, 127, [I 0, .slice none 0 0, .slice none 0 0]⟩, ⟨g15, 3, on.map I⟩]) (Lv := []) (by simpa using H) Hc
 clear Hc hfr
 generalize hst2 : reachFin l on n s = sts at H hsp
 replace H := H.reidx (L' := [⟨g8, 127, [I n, .slice A l.length cap, .slice (some ⟨g15, 0, none⟩) l.length l.length]⟩, ⟨g6, 127, [I 0, .slice none 0 0, .slice none 0 0]⟩, ⟨ga, 132, sts.flatMap stepCells⟩, ⟨g15, 3, on.map I⟩]) [0, 1, 3, 2] (by decide) rfl
 have hrow := rowsOwn' stepCells_len H 2 rfl
 have hsl := hsp.len
 refine Y.v (Ev.asS rfl) <| Y.z <| Y.q <| Y.q ?_
 obtain ⟨_, _, e1, b0, b1, b2, b3, b4, b5, _⟩ := hrow t (by omega)
 cases e1
 have hkt : kn sts t = sts[t].known := by unfold kn; simp [hsl, ht]
 refine Y.r <| Y.v (Ev.mvS rfl) <| Y.a rfl <| Y.v (Y.X rfl rfl rfl rfl rfl) <| Y.fa rfl rfl <| Y.v (Y.c (by assumption) rfl) ?_
 refine Y.v (Ev.not rfl) <| Y.z ?_
 refine WP.cond rfl (fun hc4 => ?_) (fun hc4 => ?_)
 ·refine Y.qr <| Y.v (Y.o H 0 rfl rfl) <| Y.a rfl <| Y.ss 1 H rfl (cA rfl) rfl ?_
  clear H; intro w H
  refine Y.b rfl <| Y.z ?_
  refine WP.ret ⟨[_, _], ⟨(by exact resCellA 1 H rfl (agg_run rfl) (size_run rfl) (by rfl) rfl), rfl, trivial⟩, ?_⟩
  have hkf : kn sts t = false := by rw [hkt]; simpa using hc4
  exact ⟨g15, on, amt, rfl, hol, hfl, reached_isMax hN.nodes hs hsp hfl hkf, H.reidx [3] (by decide) rfl⟩
 have hkf : kn sts t = true := by rw [hkt]; simpa using hc4
 obtain ⟨ks, hkl, hP⟩ := path_of hsp.tree n t ht hkf (hsp.pos t ht hkf).2
 obtain ⟨m1, m2, m3⟩ := pushMin_spec sts ks 65536 (by omega) fun x hx => by obtain ⟨p, _, hE⟩ := hP.edge x hx; exact hE.room_pos
 have hfl2 := push_isFlow (by omega) hst hP m3 hfl
 have hamt2 := amt_le hN ⟨by omega, by omega⟩ (by omega) hfl2
 have hga : ga ≠ g15 := by have := H.nodup; simp at this; exact this.2.2
 refine Y.k <| Y.r <| Y.a rfl <| Y.v (Y.o H 0 rfl rfl) <| Y.v (Ev.mvS rfl) <| Y.a rfl <| Y.a rfl ?_
 have hpu := flowPush g15 A (some ⟨ga, 0, none⟩) l.length cap l.length n n s t 65536 s t rfl rfl sts on ks w hrow (fun _ b o he => by cases he; simpa using hga) (hP.chain hsl hol) (by omega) (by omega) (fun i h => by have := hob i h; omega) (H.restart (L := [⟨g8, 127, [I n, .slice A l.length cap, .slice (some ⟨g15, 0, none⟩) l.length l.length]⟩, ⟨g6, 127, [I 0, .slice none 0 0, .slice none 0 0]⟩, ⟨ga, 132, sts.flatMap stepCells⟩, ⟨g15, 3, on.map I⟩]) ((((List.Sublist.refl _).cons _).cons _).cons _))
 rw [hol, hsl] at hpu
 refine OPS.call (d := some 33) rfl rfl rfl (EvC.func (fun_run rfl)) (hpu) ?_
 rintro _ w ⟨rfl, Hc⟩
 refine ⟨_, rfl, ?_⟩
 replace H := SH.call (L1 := [⟨g8, 127, [I n, .slice A l.length cap, .slice (some ⟨g15, 0, none⟩) l.length l.length]⟩, ⟨g6, 127, [I 0, .slice none 0 0, .slice none 0 0]⟩, ⟨ga, 132, sts.flatMap stepCells⟩]) (Lv := [⟨g15, 3, on.map I⟩]) H Hc
 clear Hc hpu
 refine Y.v (Y.p rfl rfl) <| Y.b rfl <| Y.z ?_
 exact ⟨Y.ag, k - (pushMin sts ks 65536).toNat, by omega, pushOn sts ks (pushMin sts ks 65536) on, amt + pushMin sts ks 65536, by rw [pushOn_length]; exact hol, rfl, by omega, hfl2, by omega, H.reidx [0, 1, 3] (by decide) rfl⟩
end Go.Proofs.YthobaaefdehoiaaGreat.Flo

/-
 Walk: Most.
-/
set_option linter.all false
namespace Go.Proofs.YthobaaefdehoiaaGreat.Flo
open Go Go.W Go.RowKit
theorem arcsErr_ok {n : Int} : ∀ {l : List Arc}, arcsErr n l = 0 → ∀ a ∈ l, arcBad n a = false ∧ arcRange a = false
 | [], _, a, ha => by cases ha
 | b :: l, h, a, ha => by
  rw [arcsErr] at h
  split at h
  ·cases h
  ·rename_i h1
   split at h
   ·cases h
   ·rename_i h2
    rcases List.mem_cons.1 ha with rfl | ha
    ·exact ⟨by simpa using h1, by simpa using h2⟩
    ·exact arcsErr_ok h a ha
theorem netOk_of {n : Int} {l : List Arc} (h : netErr n l = 0) : ∃ m : Nat, n = m ∧ NetOk m l := by
 unfold netErr at h
 split at h
 ·cases h
 ·rename_i h1
  split at h
  ·cases h
  ·rename_i h2
   have h1 : 1 ≤ n ∧ n ≤ 64 := by simp at h1; omega
   obtain ⟨m, rfl⟩ := Int.eq_ofNat_of_zero_le (show 0 ≤ n by omega)
   refine ⟨m, rfl, by omega, by omega, by simp at h2; omega, fun a ha => ?_, fun a ha => ?_⟩
   ·have := (arcsErr_ok h a ha).1
    simp [arcBad, isNode] at this; omega
   ·have := (arcsErr_ok h a ha).2
    simp [arcRange] at this; omega
structure EndsOk (n f t : Int) (l : List Arc) (m s d : Nat) : Prop where
 hn : n = m
 hf : f = s
 ht : t = d
 net : NetOk m l
 s1 : s < m
 d1 : d < m
 ne : s ≠ d
theorem endsOk_of {n f t : Int} {l : List Arc} (h : endsErr n l f t = 0) : ∃ m s d : Nat, EndsOk n f t l m s d := by
 unfold endsErr at h
 split at h
 ·rename_i h1; exact absurd h h1
 ·rename_i h1
  split at h
  ·cases h
  ·rename_i h2
   split at h
   ·cases h
   ·rename_i h3
    obtain ⟨m, rfl, hN⟩ := netOk_of (by simpa using h1)
    simp [isNode] at h2
    obtain ⟨s, rfl⟩ := Int.eq_ofNat_of_zero_le (show 0 ≤ f by omega)
    obtain ⟨d, rfl⟩ := Int.eq_ofNat_of_zero_le (show 0 ≤ t by omega)
    exact ⟨m, s, d, rfl, rfl, rfl, hN, by omega, by omega, by omega⟩
def MostRet (n f t : Int) (l : List Arc) (r e : Int) : Prop := e = endsErr n l f t ∧ (e ≠ 0 → r = 0) ∧ (e = 0 → ∃ m : Nat, n = m ∧ IsMax m l f t r)
theorem flowMost (n f t : Int) (A : Option Addr) (l : List Arc) (cap : Nat) (w0 : World) (hz : ArcsAt w0 A l) :
  Calls Tryz.prog 53 #[.agg #[I n, .slice A l.length cap], I f, I t] w0 fun e w' => ∃ r er : Int, e = .returned (.tuple #[I r, I er]) ∧ MostRet n f t l r er ∧ Below w0.heap.size w0 w' := by
 have H := SH.refl w0
 refine Calls.ofWP Tryz.func53 rfl Tryz.results53 Tryz.ntmps53 rfl <| Y.qr <| Y.bx (cA rfl) H ?_
 clear H; intro g3 w H
 refine Y.b rfl <| Y.b rfl <| Y.z <| Y.q <| Y.qr <| Y.v (Y.o H 0 rfl rfl) <| Y.a rfl <| Y.a rfl <| OPS.call (d := some 14) rfl rfl rfl (EvC.func (fun_run rfl)) (flowEnds n f t A l cap w (hz.sh H)) ?_
 rintro _ w ⟨rfl, hb⟩
 refine ⟨_, rfl, ?_⟩
 replace H := H.toBelow hb; clear hb
 refine Y.b rfl <| Y.z <| Y.qr <| Y.a rfl <| Y.v (Ev.neq rfl rfl) <| Y.z ?_
 refine WP.cond rfl (fun hc2 => ?_) (fun hc2 => ?_)
 ·refine Y.qr <| Y.a rfl <| Y.b rfl <| Y.b rfl <| Y.z ?_
  refine WP.ret ⟨_, rfl, ?_⟩
  have h : endsErr n l f t ≠ 0 := by simpa using hc2
  exact ⟨0, _, rfl, ⟨rfl, fun _ => rfl, fun h0 => absurd h0 h⟩, H.below⟩
 have h0 : endsErr n l f t = 0 := by simpa using hc2
 obtain ⟨m, s, d, hE⟩ := endsOk_of h0
 have e1 := hE.hn
 have e2 := hE.hf
 have e3 := hE.ht
 subst e1 e2 e3
 refine Y.k <| Y.qr <| Y.v (Y.o H 0 rfl rfl) <| Y.a rfl <| Y.a rfl <| OPS.call (d := some 22) rfl rfl rfl (EvC.func (fun_run rfl)) (flowGreatest m s d A l cap w hE.net hE.s1 hE.d1 hE.ne (hz.sh H)) ?_
 rintro _ w ⟨gon, on, amt, rfl, hol, _, hmax, Hc⟩
 refine ⟨_, rfl, ?_⟩
 replace H := SH.call (Lv := []) (by simpa using H) Hc
 clear Hc
 refine Y.v (Ev.mvT rfl) <| Y.v (Ev.extract rfl rfl) <| Y.v (Ev.extract rfl rfl) <| Y.al H rfl rfl ?_
 clear H; intro g9 w H
 refine Y.ss 0 H rfl (cA rfl) rfl ?_
 clear H; intro w H
 refine Y.b rfl <| Y.z <| Y.qr <| Y.a rfl <| Y.b rfl <| Y.b rfl <| Y.z ?_
 refine WP.ret ⟨_, rfl, ?_⟩
 exact ⟨amt, 0, rfl, ⟨h0.symm, fun h => absurd rfl h, fun _ => ⟨m, rfl, hmax⟩⟩, H.below⟩
end Go.Proofs.YthobaaefdehoiaaGreat.Flo

/-
 Walk: residue.each, for functions whose effect is told by a relation.
-/
set_option linter.all false
namespace Go.Proofs.YthobaaefdehoiaaGreat.Flo
open Go Go.W Go.RowKit
set_option maxHeartbeats 1000000 in
theorem flowEach2 {σ : Type} (Lv : σ → List Blk) (gs : List Nat) (I1 I2 : Nat → σ → Prop) (fv : Nat) (caps : List Value)
  (n : Int) (A B : Option Addr) (l : List Arc) (on : List Int) (cap cap2 : Nat) (s0 : σ) (w0 : World)
  (hfun : funT fv = true)
  (hz : ArcsAt w0 A l) (hA : l ≠ [] → Off A gs) (ho : IntsAt w0 B on) (hB : on ≠ [] → Off B gs) (hlen : on.length = l.length) (hl : l.length ≤ 4096)
  (hcap : ∀ i (h : i < l.length), -1000000 ≤ l[i].cap ∧ l[i].cap ≤ 1000000 ∧ -1000000 ≤ l[i].cost ∧ l[i].cost ≤ 1000000) (hon : ∀ i (h : i < on.length), -1000000000 ≤ on[i] ∧ on[i] ≤ 1000000000)
  (hgs : (Lv s0).map (·.g) = gs)
  (hvF : ∀ i (h : i < l.length) (h2 : i < on.length) s w, I1 i s → on[i] < l[i].cap → SH w0 gs w (Lv s) → SH w ((Lv s).map (·.g)) w (Lv s) → Calls Tryz.prog fv ([I l[i].f, I l[i].t, I i, I (l[i].cap - on[i]), I l[i].cost, .bool true] ++ caps).toArray w fun e w' => e = .returned (.tuple #[]) ∧ ∃ s', I2 i s' ∧ SH w ((Lv s).map (·.g)) w' (Lv s'))
  (hsF : ∀ i (h : i < l.length) (h2 : i < on.length) s, I1 i s → ¬ on[i] < l[i].cap → I2 i s)
  (hvB : ∀ i (h : i < l.length) (h2 : i < on.length) s w, I2 i s → 0 < on[i] → SH w0 gs w (Lv s) → SH w ((Lv s).map (·.g)) w (Lv s) → Calls Tryz.prog fv ([I l[i].t, I l[i].f, I i, I on[i], I (-l[i].cost), .bool false] ++ caps).toArray w fun e w' => e = .returned (.tuple #[]) ∧ ∃ s', I1 (i + 1) s' ∧ SH w ((Lv s).map (·.g)) w' (Lv s'))
  (hsB : ∀ i (h : i < l.length) (h2 : i < on.length) s, I2 i s → ¬ 0 < on[i] → I1 (i + 1) s)
  (hs0 : I1 0 s0) (H0 : SH w0 gs w0 (Lv s0)) :
  Calls Tryz.prog 77 #[.agg #[I n, .slice A l.length cap, .slice B on.length cap2], .func (.func fv) #[] caps.toArray] w0 fun e w' => e = .returned (.tuple #[]) ∧ ∃ s', I1 l.length s' ∧ SH w0 gs w' (Lv s') := by
 have H := H0
 refine Calls.ofWP Tryz.func77 rfl Tryz.results77 Tryz.ntmps77 rfl <| Y.qr <| Y.bx (cA rfl) H ?_
 clear H; intro g2 w H
 refine Y.z <| Y.qr <| Y.fa rfl rfl <| Y.fa rfl rfl <| Y.j H 0 rfl rfl rfl <| Y.v (Y.n rfl) <| Y.a rfl <| Y.z <| WP.block <| WP.loop [4, 5, 10, 11, 12, 13, 14, 15, 16, 17, 18, 19, 20, 21, 22, 23, 24, 25, 26, 27, 28, 29, 30, 31, 32, 33, 34, 35, 36, 37, 38, 39, 40, 41, 42, 43, 44, 45, 46, 47, 48, 49, 50, 51, 52, 53, 54, 55, 56, 57, 58, 59, 60, 61] (fun k e w' => ∃ (j : Nat) (s : σ), j + k = l.length ∧ e 10 = .int .i64 j ∧ SH w0 gs w' ([⟨g2, 127, [I n, .slice A l.length cap, .slice B on.length cap2]⟩] ++ Lv s) ∧ I1 j s) (l.length) (⟨0, s0, by omega, rfl, H, hs0⟩) ?_
 clear H
 rintro k u w ⟨j, s, hk, h10, H, hi⟩
 refine WP.know (t := 10) h10 <| Y.qr <| Y.v (Ev.lss rfl rfl) <| Y.z <| Y.q ?_
 refine WP.cond rfl (fun hc2 => ?_) (fun hc2 => ?_)
 ·have hlt : j < l.length := by simpa using hc2
  have hlt2 : j < on.length := by omega
  obtain ⟨b, o, rfl, hc⟩ := hz j hlt
  obtain ⟨b2, o2, rfl, hx⟩ := ho j hlt2
  have hbS : b ∉ gs := hA (List.ne_nil_of_length_pos (by omega)) b o rfl
  have hbS2 : b2 ∉ gs := hB (List.ne_nil_of_length_pos (by omega)) b2 o2 rfl
  have hc' := cellsAt_shS H hbS hc
  have hcb := hcap j hlt
  have hob := hon j hlt2
  refine Y.k <| Y.q <| WP.block <| Y.qr <| Y.a rfl <| Y.v (Y.X rfl rfl rfl rfl rfl) <| Y.v (by (change Ev _ _ _ _ (Op.load 123 (Operand.tmp 13)) _; exact Ev.loadN (arcCells l[j]) (agg_run rfl) (size_run rfl) rfl hc')) <| Y.al H rfl rfl ?_
  clear H; intro g5 w H
  refine Y.b rfl <| Y.ss 0 H rfl (cA rfl) rfl ?_
  clear H; intro w H
  refine Y.z <| Y.q <| Y.q <| WP.rstill mixed (by kernel_rfl) H ?_
  clear H; intro w hbw4 H
  refine Y.fa rfl rfl <| Y.j H 1 rfl rfl rfl <| Y.a rfl <| Y.v (Y.x rfl rfl rfl rfl) <| Y.v (Y.c (H.ldS (by assumption) (by assumption)) rfl) ?_
  refine Y.fa rfl rfl <| Y.j H 0 rfl rfl rfl <| Y.v (Ev.lss rfl rfl) <| OPS.nil_s ?_
  refine WP.cond rfl (fun hc4 => ?_) (fun hc4 => ?_)
  ·refine WP.rtail 16 mixed (by kernel_rfl) H ?_
   clear H; intro w hbw5 H
   refine Y.v (Ev.mvF rfl) <| Y.fa rfl rfl <| Y.j H 0 rfl rfl rfl <| Y.fa rfl rfl <| Y.j H 0 rfl rfl rfl <| Y.a rfl <| Y.fa rfl rfl <| Y.j H 0 rfl rfl rfl <| Y.fa rfl rfl <| Y.j H 1 rfl rfl rfl <| Y.a rfl <| Y.v (Y.x rfl rfl rfl rfl) <| Y.v (Y.c (H.ldS (by assumption) (by assumption)) rfl) ?_
   refine Y.v (Y.s rfl rfl) <| Y.fa rfl rfl <| Y.j H 0 rfl rfl rfl <| OPS.nil_s <| OPS.call (d := some 39) rfl rfl rfl (EvC.clos rfl (fun_run (by assumption))) (hvF j hlt hlt2 s _ hi (by simpa using hc4) (Y.d2 H) (H.restart ((List.sublist_cons_self _ _).trans (List.sublist_cons_self _ _)))) ?_
   rintro _ w ⟨rfl, s1, hi1, Hc⟩
   refine ⟨_, rfl, ?_⟩
   replace H := SH.call (L1 := [⟨g5, 123, arcCells l[j]⟩, ⟨g2, 127, [I n, .slice (some ⟨b, o, none⟩) l.length cap, .slice (some ⟨b2, o2, none⟩) on.length cap2]⟩]) H Hc
   clear Hc hi
   refine Y.z <| Y.qr <| Y.fa rfl rfl <| Y.j H 1 rfl rfl rfl <| Y.a rfl <| Y.v (Y.x rfl rfl rfl rfl) <| Y.v (Y.c (H.ldS (by assumption) (by assumption)) rfl) ?_
   refine Y.v (Ev.gtr rfl rfl) <| Y.z ?_
   refine WP.cond rfl (fun hc6 => ?_) (fun hc6 => ?_)
   ·refine WP.rtail 14 mixed (by kernel_rfl) H ?_
    clear H; intro w hbw7 H
    refine Y.v (Ev.mvF rfl) <| Y.fa rfl rfl <| Y.j H 0 rfl rfl rfl <| Y.fa rfl rfl <| Y.j H 0 rfl rfl rfl <| Y.a rfl <| Y.fa rfl rfl <| Y.j H 1 rfl rfl rfl <| Y.a rfl <| Y.v (Y.x rfl rfl rfl rfl) <| Y.v (Y.c (H.ldS (by assumption) (by assumption)) rfl) ?_
    refine Y.fa rfl rfl <| Y.j H 0 rfl rfl rfl <| Y.v (Ev.neg rfl (by unfold fits; omega)) <| OPS.nil_s <| OPS.call (d := some 60) rfl rfl rfl (EvC.clos rfl (fun_run (by assumption))) (hvB j hlt hlt2 s1 _ hi1 (by simpa using hc6) (Y.d2 H) (H.restart ((List.sublist_cons_self _ _).trans (List.sublist_cons_self _ _)))) ?_
    rintro _ w ⟨rfl, s2, hi2, Hc⟩
    refine ⟨_, rfl, ?_⟩
    replace H := SH.call (L1 := [⟨g5, 123, arcCells l[j]⟩, ⟨g2, 127, [I n, .slice (some ⟨b, o, none⟩) l.length cap, .slice (some ⟨b2, o2, none⟩) on.length cap2]⟩]) H Hc
    clear Hc
    refine Y.z <| Y.r <| Y.v (Y.p rfl rfl) <| Y.a rfl <| Y.z ?_
    exact ⟨Y.ag, k - 1, by omega, j + 1, _, by omega, rfl, H.drop (List.sublist_cons_self _ _), hi2⟩
   have hi2 := hsB j hlt hlt2 s1 hi1 (by simpa using hc6)
   refine Y.k <| Y.r <| Y.v (Y.p rfl rfl) <| Y.a rfl <| Y.z ?_
   exact ⟨Y.ag, k - 1, by omega, j + 1, _, by omega, rfl, H.drop (List.sublist_cons_self _ _), hi2⟩
  have hi1 := hsF j hlt hlt2 s hi (by simpa using hc4)
  clear hi
  generalize hss : s = s1 at H hi1
  refine Y.k <| Y.qr <| Y.fa rfl rfl <| Y.j H 1 rfl rfl rfl <| Y.a rfl <| Y.v (Y.x rfl rfl rfl rfl) <| Y.v (Y.c (H.ldS (by assumption) (by assumption)) rfl) ?_
  refine Y.v (Ev.gtr rfl rfl) <| Y.z ?_
  refine WP.cond rfl (fun hc6 => ?_) (fun hc6 => ?_)
  ·refine WP.rtail 14 mixed (by kernel_rfl) H ?_
   clear H; intro w hbw7 H
   refine Y.v (Ev.mvF rfl) <| Y.fa rfl rfl <| Y.j H 0 rfl rfl rfl <| Y.fa rfl rfl <| Y.j H 0 rfl rfl rfl <| Y.a rfl <| Y.fa rfl rfl <| Y.j H 1 rfl rfl rfl <| Y.a rfl <| Y.v (Y.x rfl rfl rfl rfl) <| Y.v (Y.c (H.ldS (by assumption) (by assumption)) rfl) ?_
   refine Y.fa rfl rfl <| Y.j H 0 rfl rfl rfl <| Y.v (Ev.neg rfl (by unfold fits; omega)) <| OPS.nil_s <| OPS.call (d := some 60) rfl rfl rfl (EvC.clos rfl (fun_run (by assumption))) (hvB j hlt hlt2 s1 _ hi1 (by simpa using hc6) (Y.d2 H) (H.restart ((List.sublist_cons_self _ _).trans (List.sublist_cons_self _ _)))) ?_
   rintro _ w ⟨rfl, s2, hi2, Hc⟩
   refine ⟨_, rfl, ?_⟩
   replace H := SH.call (L1 := [⟨g5, 123, arcCells l[j]⟩, ⟨g2, 127, [I n, .slice (some ⟨b, o, none⟩) l.length cap, .slice (some ⟨b2, o2, none⟩) on.length cap2]⟩]) H Hc
   clear Hc
   refine Y.z <| Y.r <| Y.v (Y.p rfl rfl) <| Y.a rfl <| Y.z ?_
   exact ⟨Y.ag, k - 1, by omega, j + 1, _, by omega, rfl, H.drop (List.sublist_cons_self _ _), hi2⟩
  have hi2 := hsB j hlt hlt2 s1 hi1 (by simpa using hc6)
  refine Y.k <| Y.r <| Y.v (Y.p rfl rfl) <| Y.a rfl <| Y.z ?_
  exact ⟨Y.ag, k - 1, by omega, j + 1, _, by omega, rfl, H.drop (List.sublist_cons_self _ _), hi2⟩
 refine WP.exit <| XB.hit <| ⟨_, rfl, ?_⟩
 have : j = l.length := by simp at hc2; omega
 subst this
 exact ⟨rfl, s, hi, H.drop (List.sublist_cons_self _ _)⟩
end Go.Proofs.YthobaaefdehoiaaGreat.Flo

/-
 Walks: the priority queue of labels: less, before, swap, Len, Peek.
-/
set_option linter.all false
namespace Go.Proofs.YthobaaefdehoiaaGreat.Flo
open Go Go.W Go.RowKit
structure Ent where
 node : Int
 dist : Int
 n : Int
instance : Inhabited Ent := ⟨⟨0, 0, 0⟩⟩
def labCells (x : Ent) : List Value := [I x.node, I x.dist]
def entCells (x : Ent) : List Value := [I x.node, I x.dist, I x.n]
theorem entCells_len (x : Ent) : (entCells x).length = 3 := rfl
def qCells (A : Option Addr) (n cap : Nat) (p : Int) : List Value := [.func (.func 74) #[] #[], .slice A n cap, I p]
def entLt (x y : Ent) : Bool := decide (x.dist < y.dist) || (!decide (y.dist < x.dist) && decide (x.n < y.n))
theorem qLess (a d b d2 : Int) (w0 : World) :
  Calls Tryz.prog 74 #[.agg #[I a, I d], .agg #[I b, I d2]] w0 fun e w' => e = .returned (.bool (decide (d < d2))) ∧ Below w0.heap.size w0 w' := by
 have H := SH.refl w0
 refine Calls.ofWP Tryz.func74 rfl Tryz.results74 Tryz.ntmps74 rfl <| Y.qr <| Y.bx (cA rfl) H ?_
 clear H; intro g2 w H
 refine Y.bx (cA rfl) H ?_
 clear H; intro g3 w H
 refine Y.v (Ev.asB rfl) <| Y.z <| Y.qr <| Y.fa rfl rfl <| Y.j H 1 rfl rfl rfl <| Y.fa rfl rfl <| Y.j H 0 rfl rfl rfl <| Y.v (Ev.lss rfl rfl) <| Y.v (Ev.asB rfl) <| Y.z ?_
 refine WP.ret ⟨_, rfl, ?_⟩
 exact ⟨rfl, H.below⟩
theorem qLen (gq n cap : Nat) (A : Option Addr) (p : Int) (w0 : World) (hq : cellsAt w0 gq 0 (qCells A n cap p)) :
  Calls Tryz.prog 103 #[.pointer (some ⟨gq, 0, none⟩)] w0 fun e w' => e = .returned (I n) ∧ Below w0.heap.size w0 w' := by
 have H := SH.refl w0
 obtain ⟨q0, q1, q2, _⟩ := hq
 refine Calls.ofWP Tryz.func103 rfl Tryz.results103 Tryz.ntmps103 rfl <| Y.qr <| Y.b rfl <| Y.z <| Y.q <| Y.qr <| Y.v (Ev.mvP rfl) <| Y.v (Ev.eqlPn Tryz.runUnderlying155 rfl rfl) <| Y.z <| WP.cond_f rfl ?_
 refine Y.k <| Y.qr <| Y.v (Ev.mvP rfl) <| Y.v (Ev.nilCheckP rfl) <| Y.fa rfl rfl <| Y.v (Y.c (H.ld0 (by assumption)) rfl) ?_
 refine Y.v (Y.n rfl) <| Y.b rfl <| Y.z ?_
 refine WP.ret ⟨_, rfl, ?_⟩
 exact ⟨rfl, H.below⟩
theorem qBefore (gq cap i k : Nat) (A : Option Addr) (p : Int) (h : List Ent) (w0 : World) (hq : cellsAt w0 gq 0 (qCells A h.length cap p)) (hr : RowsAt 3 entCells w0 A h) (hi : i < h.length) (hk : k < h.length) :
  Calls Tryz.prog 91 #[.pointer (some ⟨gq, 0, none⟩), I i, I k] w0 fun e w' => e = .returned (.bool (entLt h[i] h[k])) ∧ Below w0.heap.size w0 w' := by
 have H := SH.refl w0
 obtain ⟨q0, q1, q2, _⟩ := hq
 obtain ⟨b, o, rfl, hx⟩ := hr i hi
 obtain ⟨_, _, e1, hy⟩ := hr k hk
 cases e1
 refine Calls.ofWP Tryz.func91 rfl Tryz.results91 Tryz.ntmps91 rfl <| Y.qr <| Y.v (Ev.asB rfl) <| Y.z <| Y.q ?_
 refine WP.rheldC [7, 8, 9, 10, 11, 12, 13, 14, 15, 16, 17, 18, 19, 20, 21, 22] (fun u w' => ∃ g7 g8, u 7 = .pointer (some ⟨g7, 0, none⟩) ∧ u 8 = .pointer (some ⟨g8, 0, none⟩) ∧ SH w0 [] w' [⟨g8, 182, entCells h[k]⟩, ⟨g7, 182, entCells h[i]⟩]) mixed H ?_ ?_
 ·clear H; intro w hbw1 H
  refine Y.t 0 H rfl rfl (fun w H => Ev.mvP rfl) <| Y.t 1 H rfl rfl (fun w H => Ev.nilCheckP rfl) <| Y.t 2 H rfl rfl (fun w H => Y.f rfl rfl) <| Y.t 3 H rfl rfl (fun w H => Y.c (H.ld0 (by assumption)) rfl) ?_
  refine Y.t 4 H rfl rfl (fun w H => Y.m rfl) <| Y.t 5 H rfl rfl (fun w H => Y.X rfl rfl rfl rfl rfl) ?_
  refine OPH.take 6 rfl rfl rfl rfl (by kernel_rfl) (by kernel_rfl) (by kernel_rfl) rfl (by exact H) (fun w H => (by (change Ev _ _ _ _ (Op.load 182 (Operand.tmp 14)) _; refine Ev.loadN (b := b) (o := o + i * 3) (entCells h[i]) ?_ ?_ ?_ (cellsAt_sh H hx); exact agg_run rfl; exact size_run rfl; rfl))) ?_
  refine Y.t 7 H rfl rfl (fun w H => Ev.mvP rfl) <| Y.t 8 H rfl rfl (fun w H => Ev.nilCheckP rfl) <| Y.t 9 H rfl rfl (fun w H => Y.f rfl rfl) <| Y.t 10 H rfl rfl (fun w H => Y.c (H.ld0 (by assumption)) rfl) ?_
  refine Y.t 11 H rfl rfl (fun w H => Y.m rfl) <| Y.t 12 H rfl rfl (fun w H => Y.X rfl rfl rfl rfl rfl) ?_
  refine OPH.take 13 rfl rfl rfl rfl (by kernel_rfl) (by kernel_rfl) (by kernel_rfl) rfl (by exact H) (fun w H => (by (change Ev _ _ _ _ (Op.load 182 (Operand.tmp 21)) _; refine Ev.loadN (b := b) (o := o + k * 3) (entCells h[k]) ?_ ?_ ?_ (cellsAt_sh H hy); exact agg_run rfl; exact size_run rfl; rfl))) ?_
  refine Y.A2 14 15 rfl rfl rfl ?_ ?_
  ·refine Y.al H rfl rfl ?_
   clear H; intro g7 w H
   refine Y.z <| ⟨(H.drop (List.sublist_cons_self _ _)), ?_⟩
   refine Y.A1 15 rfl rfl <| Y.al H rfl rfl ?_
   clear H; intro g8 w H
   refine Y.z <| ⟨(H.drop ((List.sublist_cons_self _ _).trans (List.sublist_cons_self _ _))), ?_⟩
   refine Y.A1 16 rfl rfl <| Y.ss 1 H rfl (cA rfl) rfl ?_
   clear H; intro w H
   refine Y.z <| ⟨(H.drop ((List.sublist_cons_self _ _).trans (List.sublist_cons_self _ _))), ?_⟩
   refine Y.A1 17 rfl rfl <| Y.ss 0 H rfl (cA rfl) rfl ?_
   clear H; intro w H
   refine Y.z <| ⟨(H.drop ((List.sublist_cons_self _ _).trans (List.sublist_cons_self _ _))), ?_⟩
   refine Y.dn ?_
   exact ⟨Y.ag, g7, g8, rfl, rfl, H⟩
  ·refine Y.al H rfl rfl ?_
   clear H; intro g8 w H
   refine Y.z <| ⟨(H.drop (List.sublist_cons_self _ _)), ?_⟩
   refine Y.A1 14 rfl rfl <| Y.al H rfl rfl ?_
   clear H; intro g7 w H
   refine Y.z <| ⟨(H.drop ((List.sublist_cons_self _ _).trans (List.sublist_cons_self _ _))), ?_⟩
   refine Y.A1 16 rfl rfl <| Y.ss 0 H rfl (cA rfl) rfl ?_
   clear H; intro w H
   refine Y.z <| ⟨(H.drop ((List.sublist_cons_self _ _).trans (List.sublist_cons_self _ _))), ?_⟩
   refine Y.A1 17 rfl rfl <| Y.ss 1 H rfl (cA rfl) rfl ?_
   clear H; intro w H
   refine Y.z <| ⟨(H.drop ((List.sublist_cons_self _ _).trans (List.sublist_cons_self _ _))), ?_⟩
   refine Y.dn ?_
   exact ⟨Y.ag, g7, g8, rfl, rfl, H.reidx [1, 0] (by decide) rfl⟩
 clear H
 rintro u w ⟨g7, g8, h7, h8, H⟩
 refine WP.know (t := 7) h7 (WP.know (t := 8) h8 ?_)
 refine Y.q <| WP.block <| Y.q <| WP.rquiet mixed (by kernel_rfl) H ?_
 clear H; intro w hbw2 H
 refine Y.v (Ev.mvP rfl) <| Y.v (Ev.nilCheckP rfl) <| Y.fa rfl rfl <| Y.v (Y.c (H.ld0 (by assumption)) rfl) ?_
 refine Y.fa rfl rfl <| Y.v (Ev.loadN [_, _] (agg_run rfl) (size_run rfl) rfl ⟨H.ldL 1 rfl _ rfl, H.ldL 1 rfl _ rfl, trivial⟩) <| Y.fa rfl rfl <| Y.v (Ev.loadN [_, _] (agg_run rfl) (size_run rfl) rfl ⟨H.ldL 0 rfl _ rfl, H.ldL 0 rfl _ rfl, trivial⟩) <| OPS.callq rfl rfl rfl (EvC.clos rfl (fun_run rfl)) (fun w2 hb2 => qLess _ _ _ _ _) ?_
 refine Y.v (Ev.asB rfl) <| OPS.nilq H ?_
 clear H; intro w hbx2 H
 refine WP.cond rfl (fun hc2 => ?_) (fun hc2 => ?_)
 ·refine Y.qr <| Y.v (Ev.asB rfl) <| Y.z ?_
  refine WP.ret ⟨_, rfl, ?_⟩
  exact ⟨congrArg (fun b => Ending.returned (Bo b)) (show true = entLt h[i] h[k] from by simp only [entLt, hc2]; rfl), H.below⟩
 refine Y.q <| WP.rquiet mixed (by kernel_rfl) H ?_
 clear H; intro w hbw4 H
 refine Y.v (Ev.mvP rfl) <| Y.v (Ev.nilCheckP rfl) <| Y.fa rfl rfl <| Y.v (Y.c (H.ld0 (by assumption)) rfl) ?_
 refine Y.fa rfl rfl <| Y.v (Ev.loadN [_, _] (agg_run rfl) (size_run rfl) rfl ⟨H.ldL 0 rfl _ rfl, H.ldL 0 rfl _ rfl, trivial⟩) <| Y.fa rfl rfl <| Y.v (Ev.loadN [_, _] (agg_run rfl) (size_run rfl) rfl ⟨H.ldL 1 rfl _ rfl, H.ldL 1 rfl _ rfl, trivial⟩) <| OPS.callq rfl rfl rfl (EvC.clos rfl (fun_run rfl)) (fun w2 hb2 => qLess _ _ _ _ _) ?_
 refine Y.v (Ev.asB rfl) <| OPS.nilq H ?_
 clear H; intro w hbx4 H
 refine WP.cond rfl (fun hc4 => ?_) (fun hc4 => ?_)
 ·refine Y.qr <| Y.v (Ev.asB rfl) <| Y.z ?_
  refine WP.ret ⟨_, rfl, ?_⟩
  exact ⟨congrArg (fun b => Ending.returned (Bo b)) (show false = entLt h[i] h[k] from by simp only [entLt, hc2, hc4]; rfl), H.below⟩
 refine Y.k <| Y.qr <| Y.fa rfl rfl <| Y.j H 1 rfl rfl rfl <| Y.fa rfl rfl <| Y.j H 0 rfl rfl rfl <| Y.v (Ev.lss rfl rfl) <| Y.v (Ev.asB rfl) <| Y.z ?_
 refine WP.ret ⟨_, rfl, ?_⟩
 exact ⟨congrArg (fun b => Ending.returned (Bo b)) (show decide (h[i].n < h[k].n) = entLt h[i] h[k] from by simp only [entLt, hc2, hc4]; simp), H.below⟩
end Go.Proofs.YthobaaefdehoiaaGreat.Flo

/-
 Walk: the priority queue of labels: swap.
-/
set_option linter.all false
namespace Go.Proofs.YthobaaefdehoiaaGreat.Flo
open Go Go.W Go.RowKit
theorem putL_append : ∀ (vs a b : List Value) (k : Nat), k + vs.length ≤ a.length → putL (a ++ b) k vs = putL a k vs ++ b
 | [], _, _, _, _ => rfl
 | v :: vs, a, b, k, h => by
  simp only [List.length_cons] at h
  simp only [putL]
  rw [List.set_append_left _ _ (by omega)]
  exact putL_append vs (a.set k v) b (k + 1) (by simp; omega)
theorem putL_ents (h : List Ent) (sp : List Value) (k : Nat) (x : Ent) (hk : k < h.length) : putL (h.flatMap entCells ++ sp) (0 + k * 3) (entCells x) = (h.set k x).flatMap entCells ++ sp := by
 rw [Nat.zero_add, putL_append _ _ _ _ (by rw [rows_length entCells_len, entCells_len]; omega), putL_rows entCells_len h k x hk]
def qBlks (gq ga : Nat) (h : List Ent) (cap : Nat) (p : Int) (sp : List Value) : List Blk := [⟨gq, 180, qCells (some ⟨ga, 0, none⟩) h.length cap p⟩, ⟨ga, 182, h.flatMap entCells ++ sp⟩]
set_option maxHeartbeats 400000 in
theorem qSwap (gq ga cap i k : Nat) (p : Int) (h : List Ent) (sp : List Value) (w0 : World) (hi : i < h.length) (hk : k < h.length) (H0 : SH w0 [gq, ga] w0 (qBlks gq ga h cap p sp)) :
  Calls Tryz.prog 92 #[.pointer (some ⟨gq, 0, none⟩), I i, I k] w0 fun e w' => e = .returned (.tuple #[]) ∧ SH w0 [gq, ga] w' (qBlks gq ga (swapL h i k) cap p sp) := by
 have Hf := H0
 unfold qBlks qCells at Hf
 have H := Hf.reidx (L' := [⟨gq, 180, qCells (some ⟨ga, 0, none⟩) h.length cap p⟩]) [0] (by decide) rfl
 unfold qCells at H
 refine Calls.ofWP Tryz.func92 rfl Tryz.results92 Tryz.ntmps92 rfl ?_
 refine WP.rheldC [6, 7, 8, 9, 10, 11, 12, 13, 14, 15, 16, 17, 18, 19, 20, 21, 22, 23, 24, 25, 26, 27, 28, 29, 30, 31] (fun _ w' => SH w0 [gq, ga] w' (qBlks gq ga (swapL h i k) cap p sp)) mixed H ?_ ?_
 ·clear H; intro w hbw0 H
  refine Y.t 0 H rfl rfl (fun w H => Ev.mvP rfl) <| Y.t 1 H rfl rfl (fun w H => Ev.nilCheckP rfl) <| Y.t 2 H rfl rfl (fun w H => Y.f rfl rfl) <| Y.t 3 H rfl rfl (fun w H => Y.l H 0 rfl rfl rfl) <| Y.t 4 H rfl rfl (fun w H => Y.m rfl) <| Y.t 5 H rfl rfl (fun w H => Ev.mvP rfl) <| Y.t 6 H rfl rfl (fun w H => Ev.nilCheckP rfl) <| Y.t 7 H rfl rfl (fun w H => Y.f rfl rfl) <| Y.t 8 H rfl rfl (fun w H => Y.l H 0 rfl rfl rfl) <| Y.t 9 H rfl rfl (fun w H => Y.m rfl) <| Y.t 10 H rfl rfl (fun w H => Ev.mvP rfl) <| Y.t 11 H rfl rfl (fun w H => Ev.nilCheckP rfl) <| Y.t 12 H rfl rfl (fun w H => Y.f rfl rfl) <| Y.t 13 H rfl rfl (fun w H => Y.l H 0 rfl rfl rfl) <| Y.t 14 H rfl rfl (fun w H => Y.m rfl) <| Y.t 15 H rfl rfl (fun w H => Y.X rfl rfl rfl rfl rfl) <| Y.t 17 H rfl rfl (fun w H => Ev.mvP rfl) <| Y.t 18 H rfl rfl (fun w H => Ev.nilCheckP rfl) <| Y.t 19 H rfl rfl (fun w H => Y.f rfl rfl) <| Y.t 20 H rfl rfl (fun w H => Y.l H 0 rfl rfl rfl) <| Y.t 21 H rfl rfl (fun w H => Y.m rfl) <| Y.t 22 H rfl rfl (fun w H => Y.X rfl rfl rfl rfl rfl) ?_
  refine Y.A2 16 23 rfl rfl rfl ?_ ?_
  ·try replace Hf := Hf.toBelow hbw0
   have hx := rowsOwn entCells_len Hf 1 rfl k hk
   obtain ⟨_, _, e1, hx⟩ := hx
   cases e1
   refine OPS.val rfl rfl rfl (by refine Ev.loadN (b := ga) (o := 0 + k * 3) (entCells h[k]) ?_ ?_ ?_ hx; exact agg_run rfl; exact size_run rfl; rfl) ?_
   refine Y.z <| ⟨(H), ?_⟩
   refine Y.A1 23 rfl rfl ?_
   try replace Hf := Hf.toBelow hbw0
   have hx := rowsOwn entCells_len Hf 1 rfl i hi
   obtain ⟨_, _, e1, hx⟩ := hx
   cases e1
   refine OPS.val rfl rfl rfl (by refine Ev.loadN (b := ga) (o := 0 + i * 3) (entCells h[i]) ?_ ?_ ?_ hx; exact agg_run rfl; exact size_run rfl; rfl) ?_
   refine Y.z <| ⟨(H), ?_⟩
   refine Y.t 24 H rfl rfl (fun w H => Y.X rfl rfl rfl rfl rfl) <| Y.A1 25 rfl rfl <| OPS.store 1 _ rfl rfl rfl (size_run rfl) rfl (cA rfl) rfl rfl Hf rfl (by rw [List.length_append, rows_length entCells_len]; omega) ?_
   clear H Hf; intro w Hf
   replace Hf : SH w0 [gq, ga] w [⟨gq, 180, qCells (some ⟨ga, 0, none⟩) h.length cap p⟩, ⟨ga, 182, putL (h.flatMap entCells ++ sp) (0 + i * 3) (entCells h[k])⟩] := Hf
   rw [putL_ents h sp i _ hi] at Hf
   have H := Hf.reidx (L' := [⟨gq, 180, qCells (some ⟨ga, 0, none⟩) h.length cap p⟩]) [0] (by decide) rfl
   unfold qCells at H
   refine Y.z <| ⟨(H), ?_⟩
   refine Y.t 26 H rfl rfl (fun w H => Y.X rfl rfl rfl rfl rfl) <| Y.A1 27 rfl rfl <| OPS.store 1 _ rfl rfl rfl (size_run rfl) rfl (cA rfl) rfl rfl Hf rfl (by rw [List.length_append, rows_length entCells_len, List.length_set]; omega) ?_
   clear H Hf; intro w Hf
   replace Hf : SH w0 [gq, ga] w [⟨gq, 180, qCells (some ⟨ga, 0, none⟩) h.length cap p⟩, ⟨ga, 182, putL ((h.set i h[k]).flatMap entCells ++ sp) (0 + k * 3) (entCells h[i])⟩] := Hf
   rw [putL_ents _ sp k _ (by rw [List.length_set]; exact hk)] at Hf
   have H := Hf.reidx (L' := [⟨gq, 180, qCells (some ⟨ga, 0, none⟩) h.length cap p⟩]) [0] (by decide) rfl
   unfold qCells at H
   have hsw : swapL h i k = (h.set i h[k]).set k h[i] := by simp [swapL, hi, hk]
   refine Y.z <| ⟨(H), ?_⟩
   refine Y.dn ?_
   exact ⟨Y.ag, by rw [qBlks, swapL_length, hsw]; exact Hf⟩
  ·try replace Hf := Hf.toBelow hbw0
   have hx := rowsOwn entCells_len Hf 1 rfl i hi
   obtain ⟨_, _, e1, hx⟩ := hx
   cases e1
   refine OPS.val rfl rfl rfl (by refine Ev.loadN (b := ga) (o := 0 + i * 3) (entCells h[i]) ?_ ?_ ?_ hx; exact agg_run rfl; exact size_run rfl; rfl) ?_
   refine Y.z <| ⟨(H), ?_⟩
   refine Y.A1 16 rfl rfl ?_
   try replace Hf := Hf.toBelow hbw0
   have hx := rowsOwn entCells_len Hf 1 rfl k hk
   obtain ⟨_, _, e1, hx⟩ := hx
   cases e1
   refine OPS.val rfl rfl rfl (by refine Ev.loadN (b := ga) (o := 0 + k * 3) (entCells h[k]) ?_ ?_ ?_ hx; exact agg_run rfl; exact size_run rfl; rfl) ?_
   refine Y.z <| ⟨(H), ?_⟩
   refine Y.t 24 H rfl rfl (fun w H => Y.X rfl rfl rfl rfl rfl) <| Y.A1 25 rfl rfl <| OPS.store 1 _ rfl rfl rfl (size_run rfl) rfl (cA rfl) rfl rfl Hf rfl (by rw [List.length_append, rows_length entCells_len]; omega) ?_
   clear H Hf; intro w Hf
   replace Hf : SH w0 [gq, ga] w [⟨gq, 180, qCells (some ⟨ga, 0, none⟩) h.length cap p⟩, ⟨ga, 182, putL (h.flatMap entCells ++ sp) (0 + i * 3) (entCells h[k])⟩] := Hf
   rw [putL_ents h sp i _ hi] at Hf
   have H := Hf.reidx (L' := [⟨gq, 180, qCells (some ⟨ga, 0, none⟩) h.length cap p⟩]) [0] (by decide) rfl
   unfold qCells at H
   refine Y.z <| ⟨(H), ?_⟩
   refine Y.t 26 H rfl rfl (fun w H => Y.X rfl rfl rfl rfl rfl) <| Y.A1 27 rfl rfl <| OPS.store 1 _ rfl rfl rfl (size_run rfl) rfl (cA rfl) rfl rfl Hf rfl (by rw [List.length_append, rows_length entCells_len, List.length_set]; omega) ?_
   clear H Hf; intro w Hf
   replace Hf : SH w0 [gq, ga] w [⟨gq, 180, qCells (some ⟨ga, 0, none⟩) h.length cap p⟩, ⟨ga, 182, putL ((h.set i h[k]).flatMap entCells ++ sp) (0 + k * 3) (entCells h[i])⟩] := Hf
   rw [putL_ents _ sp k _ (by rw [List.length_set]; exact hk)] at Hf
   have H := Hf.reidx (L' := [⟨gq, 180, qCells (some ⟨ga, 0, none⟩) h.length cap p⟩]) [0] (by decide) rfl
   unfold qCells at H
   have hsw : swapL h i k = (h.set i h[k]).set k h[i] := by simp [swapL, hi, hk]
   refine Y.z <| ⟨(H), ?_⟩
   refine Y.dn ?_
   exact ⟨Y.ag, by rw [qBlks, swapL_length, hsw]; exact Hf⟩
 clear H
 rintro u w H
 refine ⟨_, rfl, ?_⟩
 exact ⟨rfl, H⟩
end Go.Proofs.YthobaaefdehoiaaGreat.Flo

/-
 Walks: the priority queue of labels: Peek, New.
-/
set_option linter.all false
namespace Go.Proofs.YthobaaefdehoiaaGreat.Flo
open Go Go.W Go.RowKit
def labV (x : Ent) : Value := .agg (labCells x).toArray
def peekV (h : List Ent) : Value := .tuple #[labV (h.headD ⟨0, 0, 0⟩), .bool (!h.isEmpty)]
theorem qPeek (gq cap : Nat) (A : Option Addr) (p : Int) (h : List Ent) (w0 : World) (hq : cellsAt w0 gq 0 (qCells A h.length cap p)) (hr : RowsAt 3 entCells w0 A h) :
  Calls Tryz.prog 93 #[.pointer (some ⟨gq, 0, none⟩)] w0 fun e w' => e = .returned (peekV h) ∧ Below w0.heap.size w0 w' := by
 have H := SH.refl w0
 have hq' := hq
 obtain ⟨q0, q1, q2, _⟩ := hq
 refine Calls.ofWPc Tryz.func93 rfl Tryz.results93 Tryz.ntmps93 rfl <| Y.qr <| Y.al H rfl rfl ?_
 clear H; intro g2 w H
 refine Y.v (Ev.asB rfl) <| Y.z <| Y.q <| Y.qr <| Y.v (Ev.mvP rfl) <| OPS.call (d := some 6) rfl rfl rfl (EvC.func (fun_run rfl)) (qLen gq h.length cap A p _ (cellsAt_sh H hq')) ?_
 rintro _ w ⟨rfl, hb⟩
 refine ⟨_, rfl, ?_⟩
 replace H := H.toBelow hb; clear hb
 refine Y.v (Ev.eql rfl rfl) <| Y.z ?_
 refine WP.cond rfl (fun hc1 => ?_) (fun hc1 => ?_)
 ·have h0 : h = [] := List.length_eq_zero_iff.1 (by simp at hc1; simp [hc1])
  subst h0
  refine Y.qr <| Y.al H rfl rfl ?_
  clear H; intro g4 w H
  refine Y.z <| Y.qr <| Y.v (Y.o H 0 rfl rfl) <| Y.ss 1 H rfl (cA rfl) rfl ?_
  clear H; intro w H
  refine Y.v (Ev.asB rfl) <| Y.z ?_
  refine WP.ret ⟨[_, _], ⟨(by exact resCellA 1 H rfl (agg_run rfl) (size_run rfl) (by rfl) rfl), rfl, trivial⟩, ?_⟩
  exact ⟨rfl, H.below⟩
 have hpos : 0 < h.length := by simp at hc1; exact List.length_pos_iff.2 hc1
 obtain ⟨b, o, rfl, hx⟩ := hr 0 hpos
 obtain ⟨x, l, rfl⟩ : ∃ x l, h = x :: l := by
  cases h with
  | nil => exact absurd hpos (by simp)
  | cons x l => exact ⟨x, l, rfl⟩
 obtain ⟨x0, x1, x2, _⟩ := cellsAt_sh H hx
 refine Y.k <| Y.qr <| Y.v (Ev.mvP rfl) <| Y.v (Ev.nilCheckP rfl) <| Y.fa rfl rfl <| Y.v (Y.c (H.ld0 (by assumption)) rfl) ?_
 refine Y.v (Ev.indexAddr (j := 0) (el_run rfl) (size_run rfl) rfl rfl rfl hpos) <| Y.fa rfl rfl ?_
 refine OPS.val rfl rfl rfl (by refine Ev.loadN (b := b) (o := o + 0 * 3 + 0) (labCells x) ?_ ?_ ?_ ⟨x0, x1, trivial⟩; exact agg_run rfl; exact size_run rfl; rfl) ?_
 refine Y.ss 0 H rfl (cA rfl) rfl ?_
 clear H; intro w H
 refine Y.v (Ev.asB rfl) <| Y.z ?_
 refine WP.ret ⟨[_, _], ⟨(by exact resCellA 0 H rfl (agg_run rfl) (size_run rfl) (by rfl) rfl), rfl, trivial⟩, ?_⟩
 exact ⟨rfl, H.below⟩
theorem qNew (w0 : World) :
  Calls Tryz.prog 73 #[.func (.func 74) #[] #[]] w0 fun e w' => ∃ g, e = .returned (.pointer (some ⟨g, 0, none⟩)) ∧ SH w0 [] w' [⟨g, 180, qCells none 0 0 0⟩] := by
 have H := SH.refl w0
 refine Calls.ofWP Tryz.func73 rfl Tryz.results73 Tryz.ntmps73 rfl <| Y.qr <| Y.v (Ev.asP rfl) <| Y.z <| Y.q <| Y.qr <| Y.v (Ev.mvF rfl) <| Y.v (Ev.eqlFn Tryz.runUnderlying159 rfl rfl) <| Y.z <| WP.cond_f rfl ?_
 refine Y.k <| Y.qr <| Y.v (Ev.mvF rfl) <| Y.v (Ev.build (bld_180_0 rfl)) <| Y.bx (cA rfl) H ?_
 clear H; intro g7 w H
 refine Y.v (Ev.asP rfl) <| Y.z ?_
 refine WP.ret ⟨_, rfl, ?_⟩
 exact ⟨_, rfl, H⟩
end Go.Proofs.YthobaaefdehoiaaGreat.Flo

/-
 Walk: the priority queue of labels: sink.
-/
set_option linter.all false
namespace Go.Proofs.YthobaaefdehoiaaGreat.Flo
open Go Go.W Go.RowKit
theorem entLtOk : LtOk entLt := ⟨fun x y h => by unfold entLt at *; simp at *; omega, fun x y z h1 h2 => by unfold entLt at *; simp at *; omega⟩
theorem qBeforeI (gq ga cap i k : Nat) (x y p : Int) (h : List Ent) (sp : List Value) (w0 w : World) (S : List Nat) (L : List Blk) (hx : x = i) (hy : y = k) (H : SH w0 S w L) (h0 : L[0]? = some ⟨gq, 180, qCells (some ⟨ga, 0, none⟩) h.length cap p⟩) (h1 : L[1]? = some ⟨ga, 182, h.flatMap entCells ++ sp⟩) (hi : i < h.length) (hk : k < h.length) :
  Calls Tryz.prog 91 #[.pointer (some ⟨gq, 0, none⟩), I x, I y] w fun e w' => e = .returned (.bool (entLt (h.getD i default) (h.getD k default))) ∧ Below w.heap.size w w' := by
 subst hx hy
 have e1 : h.getD i default = h[i] := by simp [hi]
 have e2 : h.getD k default = h[k] := by simp [hk]
 rw [e1, e2]
 exact qBefore gq cap i k (some ⟨ga, 0, none⟩) p h w (cellsAt_own H 0 h0 _ 0 fun j hj => by rw [Nat.zero_add]; exact List.getElem?_eq_getElem hj) (rowsOwn entCells_len H 1 h1) hi hk
theorem qSwapI (gq ga cap i k : Nat) (x y p : Int) (h : List Ent) (sp : List Value) (w0 w : World) (S : List Nat) (hx : x = i) (hy : y = k) (H : SH w0 S w (qBlks gq ga h cap p sp)) (hi : i < h.length) (hk : k < h.length) :
  Calls Tryz.prog 92 #[.pointer (some ⟨gq, 0, none⟩), I x, I y] w fun e w' => e = .returned (.tuple #[]) ∧ SH w0 S w' (qBlks gq ga (swapL h i k) cap p sp) := by
 subst hx hy
 refine (qSwap gq ga cap i k p h sp w hi hk (H.restart (List.Sublist.refl _))).mono fun e w' ⟨he, Hc⟩ => ⟨he, ?_⟩
 exact SH.call (L1 := []) (Lv := qBlks gq ga h cap p sp) H Hc
set_option maxHeartbeats 400000 in
theorem qSink (gq ga cap : Nat) (p : Int) (h : List Ent) (sp : List Value) (w0 : World) (S : List Nat) (hd : DownOk entLt h 0) (hl : h.length ≤ 1000000000) (H0 : SH w0 S w0 (qBlks gq ga h cap p sp)) :
  Calls Tryz.prog 94 #[.pointer (some ⟨gq, 0, none⟩)] w0 fun e w' => e = .returned (.tuple #[]) ∧ ∃ h' : List Ent, h'.Perm h ∧ HeapOk entLt h' ∧ SH w0 S w' (qBlks gq ga h' cap p sp) := by
 have H := H0
 refine Calls.ofWP Tryz.func94 rfl Tryz.results94 Tryz.ntmps94 rfl <| Y.qr <| Y.b rfl <| Y.z <| WP.block <| WP.loop [2, 3, 4, 5, 6, 7, 8, 9, 10, 11, 12, 13, 14, 15, 16, 17, 18, 19, 20, 21, 22, 23, 24, 25, 26, 27, 28, 29, 30, 31, 32, 33, 34, 35, 36, 37] (fun g e w' => ∃ (i : Nat) (h1 : List Ent), e 2 = I i ∧ SH w0 S w' (qBlks gq ga h1 cap p sp) ∧ h1.Perm h ∧ DownOk entLt h1 i ∧ (i < h.length ∨ h = []) ∧ i + g = h.length) (h.length) (⟨0, h, rfl, H, List.Perm.refl _, hd, by cases h with | nil => exact .inr rfl | cons x t => exact .inl (by simp), by omega⟩) ?_
 clear H
 rintro g u w ⟨i, h1, h2, H, hp, hd1, hi, hg⟩
 refine WP.know (t := 2) h2 ?_
 have hlen := hp.length_eq
 unfold qBlks qCells at H
 refine WP.block <| Y.qr <| Y.a rfl <| Y.b rfl <| Y.z <| Y.q <| Y.qr <| Y.a rfl <| Y.v (Ev.mul rfl rfl (by unfold fits; omega)) <| Y.v (Y.p rfl rfl) <| Y.b rfl <| Y.z <| WP.block <| WP.loop [3, 4, 9, 10, 11, 12, 13, 14, 15, 16, 17, 18, 19, 20, 21, 22, 23, 24, 25, 26, 27, 28, 29] (fun g2 e w' => ∃ k f : Nat, e 4 = I k ∧ e 3 = I f ∧ SH w0 S w' (qBlks gq ga h1 cap p sp) ∧ FirstOk entLt h1 i k f ∧ 2 * i + 1 ≤ k ∧ k + g2 = 2 * i + 3) (2) (⟨2 * i + 1, i, rfl, rfl, H, FirstOk.start entLtOk h1 i, by omega, by omega⟩) ?_
 clear H
 rintro g2 u2 w ⟨k, f, h4, h3, H, hF, hk1, hk2⟩
 refine WP.know (t := 4) h4 (WP.know (t := 3) h3 ?_)
 unfold qBlks qCells at H
 refine Y.q <| Y.qr <| Y.a rfl <| Y.a rfl <| Y.v (Ev.mul rfl rfl (by unfold fits; omega)) <| Y.v (Y.p rfl rfl) <| Y.v (Ev.leq rfl rfl) <| Y.v (Ev.mvB rfl) <| Y.g rfl rfl (fun hg => Y.m rfl) <| Y.g rfl rfl (fun hg => Ev.mvP rfl) <| Y.g rfl rfl (fun hg => Ev.nilCheckP (gvE hg rfl)) <| Y.g rfl rfl (fun hg => Ev.fieldAddr (fld_run rfl) (gvE hg rfl)) <| Y.y rfl rfl H 0 (fun hg => gvE hg rfl) rfl rfl <| Y.g rfl rfl (fun hg => Ev.len (el_run rfl) (gvE hg rfl)) <| Y.g rfl rfl (fun hg => Ev.lss (gvE hg rfl) (gvE hg rfl)) <| Y.v (Ev.pickAnd rfl rfl rfl) <| Y.z ?_
 refine WP.cond rfl (fun hc3 => ?_) (fun hc3 => ?_)
 ·have hkl : k ≤ 2 * i + 2 ∧ k < h1.length := by simp at hc3; omega
  have hfl : f < h1.length := by rcases hF.place with q | q <;> omega
  refine Y.k <| Y.q <| WP.block <| Y.qr <| Y.v (Ev.mvP rfl) <| Y.a rfl <| Y.a rfl <| OPS.call (d := some 28) rfl rfl rfl (EvC.func (fun_run rfl)) (qBeforeI gq ga cap k f _ _ p h1 sp w0 w S _ rfl rfl H rfl rfl hkl.2 hfl) ?_
  rintro _ w ⟨rfl, hb⟩
  refine ⟨_, rfl, ?_⟩
  replace H := H.toBelow hb; clear hb
  refine Y.z ?_
  refine WP.cond rfl (fun hc5 => ?_) (fun hc5 => ?_)
  ·have hF2 := hF.take entLtOk (by omega) hkl.2 (by omega) hc5
   refine Y.r <| Y.a rfl <| Y.b rfl <| Y.z <| Y.r <| Y.a rfl <| Y.v (Y.p rfl rfl) <| Y.b rfl <| Y.z ?_
   exact ⟨Y.ag, g2 - 1, by omega, k + 1, _, rfl, rfl, H, hF2, by omega, by omega⟩
  have hF2 := hF.keep hc5
  refine Y.k <| Y.r <| Y.a rfl <| Y.v (Y.p rfl rfl) <| Y.b rfl <| Y.z ?_
  exact ⟨Y.ag, g2 - 1, by omega, k + 1, _, rfl, rfl, H, hF2, by omega, by omega⟩
 have hdn : 2 * i + 2 < k ∨ h1.length ≤ k := by simp at hc3; omega
 have hall := hF.done hdn
 refine WP.exit <| XB.hit <| Y.q <| Y.qr <| Y.a rfl <| Y.a rfl <| Y.v (Ev.eql rfl rfl) <| Y.z ?_
 refine WP.cond rfl (fun hc7 => ?_) (fun hc7 => ?_)
 ·refine WP.ret ⟨_, rfl, ?_⟩
  have hfi : f = i := by simp at hc7; omega
  subst hfi
  exact ⟨rfl, h1, hp, hd1.done hall, H⟩
 have hfi : f ≠ i := by simp at hc7; omega
 obtain ⟨q1, q2, q3⟩ : 0 < f ∧ (f - 1) / 2 = i ∧ f < h1.length := by rcases hF.place with q | q; exact absurd q hfi; exact q
 have hil : i < h1.length := by omega
 refine Y.k <| Y.qr <| Y.v (Ev.mvP rfl) <| Y.a rfl <| Y.a rfl <| OPS.call (d := some 36) rfl rfl rfl (EvC.func (fun_run rfl)) (qSwapI gq ga cap i f _ _ p h1 sp w0 w S rfl rfl H hil q3) ?_
 rintro _ w ⟨rfl, H2⟩
 refine ⟨_, rfl, ?_⟩
 replace H := H2; clear H2
 refine Y.z <| Y.r <| Y.a rfl <| Y.b rfl <| Y.z ?_
 exact ⟨Y.ag, h.length - f, by omega, f, swapL h1 i f, rfl, H, (swapL_perm hil q3).trans hp, hd1.step hil q3 q1 q2 hF.le hall, .inl (by omega), by omega⟩
end Go.Proofs.YthobaaefdehoiaaGreat.Flo

/-
 Walk: the priority queue of labels: Push.
-/
set_option linter.all false
namespace Go.Proofs.YthobaaefdehoiaaGreat.Flo
open Go Go.W Go.RowKit
abbrev QOwn (A : Option Addr) (cap : Nat) (h : List Ent) (Lo : List Blk) : Prop := OwnS A cap h.length (h.flatMap entCells) 182 3 Lo
def qLv (gq : Nat) (A : Option Addr) (cap : Nat) (h : List Ent) (p : Int) (Lo : List Blk) : List Blk := ⟨gq, 180, qCells A h.length cap p⟩ :: Lo
theorem entCells_one (h : List Ent) : ((h.flatMap entCells).all (·.oneCell')) = true := by
 rw [List.all_eq_true]; intro v hv
 obtain ⟨x, _, hx⟩ := List.mem_flatMap.1 hv
 simp only [entCells, List.mem_cons, List.not_mem_nil, or_false] at hx
 rcases hx with rfl | rfl | rfl <;> rfl
set_option maxHeartbeats 400000 in
theorem qPush (gq cap : Nat) (A : Option Addr) (p nd ds : Int) (h : List Ent) (Lo : List Blk) (w0 : World) (S : List Nat) (hO : QOwn A cap h Lo) (hh : HeapOk entLt h) (hl : h.length ≤ 1000000) (hp : 0 ≤ p ∧ p ≤ 1000000000) (H0 : SH w0 S w0 (qLv gq A cap h p Lo)) :
  Calls Tryz.prog 75 #[.pointer (some ⟨gq, 0, none⟩), .agg #[I nd, I ds]] w0 fun e w' => e = .returned (.tuple #[]) ∧ ∃ (A' : Option Addr) (cap' : Nat) (h' : List Ent) (Lo' : List Blk),
   h'.Perm (h ++ [⟨nd, ds, p⟩]) ∧ HeapOk entLt h' ∧ QOwn A' cap' h' Lo' ∧ SH w0 S w' (qLv gq A' cap' h' (p + 1) Lo') := by
 have H := H0
 unfold qLv qCells at H
 refine Calls.ofWP Tryz.func75 rfl Tryz.results75 Tryz.ntmps75 rfl <| Y.qr <| Y.bx (cA rfl) H ?_
 clear H; intro g3 w H
 refine Y.z <| Y.q <| Y.qr <| Y.v (Ev.mvP rfl) <| Y.v (Ev.eqlPn Tryz.runUnderlying155 rfl rfl) <| Y.z <| WP.cond_f rfl ?_
 refine Y.k <| Y.q ?_
 have Hf := H
 replace H := H.reidx (L' := [⟨g3, 158, [I nd, I ds]⟩]) [0] (by decide) rfl
 refine WP.rheldC [7, 8, 9, 10, 11, 12, 13, 14, 15, 16, 17, 18, 19, 20, 21] (fun _ w' => ∃ (ga : Nat) (sp : List Value) (cap' : Nat), OwnS (some ⟨ga, 0, none⟩) cap' (h.length + 1) (h.flatMap entCells ++ entCells ⟨nd, ds, p⟩) 182 3 [⟨ga, 182, (h.flatMap entCells ++ entCells ⟨nd, ds, p⟩) ++ sp⟩] ∧ SH w0 S w' [⟨gq, 180, qCells (some ⟨ga, 0, none⟩) (h.length + 1) cap' p⟩, ⟨ga, 182, (h.flatMap entCells ++ entCells ⟨nd, ds, p⟩) ++ sp⟩]) mixed H ?_ ?_
 ·clear H; intro w hbw2 H
  refine Y.t 0 H rfl rfl (fun w H => Ev.mvP rfl) <| Y.t 1 H rfl rfl (fun w H => Ev.mvP rfl) <| Y.t 2 H rfl rfl (fun w H => Ev.nilCheckP rfl) <| Y.t 3 H rfl rfl (fun w H => Y.f rfl rfl) <| Y.t 5 H rfl rfl (fun w H => Y.o H 0 rfl rfl) <| Y.t 6 H rfl rfl (fun w H => Ev.mvP rfl) <| Y.t 7 H rfl rfl (fun w H => Ev.nilCheckP rfl) <| Y.t 8 H rfl rfl (fun w H => Y.f rfl rfl) ?_
  refine Y.A2 4 9 rfl rfl rfl ?_ ?_
  ·try replace Hf := Hf.toBelow hbw2
   refine Y.v (Y.l Hf 1 rfl rfl rfl) <| Y.z <| ⟨(H), ?_⟩
   refine Y.A1 9 rfl rfl ?_
   try replace Hf := Hf.toBelow hbw2
   refine Y.v (Y.l Hf 1 rfl rfl rfl) <| Y.z <| ⟨(H), ?_⟩
   refine Y.t 10 H rfl rfl (fun w H => Ev.build (bld_182_0_1 rfl rfl)) <| Y.A1 11 rfl rfl <| OPS.buildSlice rfl rfl rfl rfl (bsl_178_1_0 rfl) Hf ?_
   clear H Hf; intro g18 w Hf
   have H := Hf.reidx (L' := [⟨g3, 158, [I nd, I ds]⟩]) [1] (by decide) rfl
   refine Y.z <| ⟨(H), ?_⟩
   refine Y.A1 12 rfl rfl <| OPS.append (m := 1) (news := entCells ⟨nd, ds, p⟩) (R := [⟨g18, 182, entCells ⟨nd, ds, p⟩⟩, ⟨g3, 158, [I nd, I ds]⟩, ⟨gq, 180, qCells A h.length cap p⟩]) rfl rfl rfl rfl rfl (sl_run rfl) rfl rfl hO rfl (src_own Hf 0 rfl) rfl (by omega) (by unfold maxLen; omega) Hf (List.Perm.refl _) ?_
   clear H Hf hO; intro A' cap' Lo w hO Hf
   obtain ⟨ga, sp, rfl, rfl, _, _, hsl⟩ : ∃ g sp, A' = some ⟨g, 0, none⟩ ∧ Lo = [⟨g, 182, (h.flatMap entCells ++ entCells ⟨nd, ds, p⟩) ++ sp⟩] ∧ h.length + 1 ≤ cap' ∧ cap' ≤ maxLen ∧ ((h.flatMap entCells ++ entCells ⟨nd, ds, p⟩) ++ sp).length = cap' * 3 := by
    rcases hO.form with ⟨_, h, _⟩ | h
    ·omega
    ·exact h
   unfold qCells at Hf
   have H := Hf.reidx (L' := [⟨g3, 158, [I nd, I ds]⟩]) [1] (by decide) rfl
   refine Y.z <| ⟨(H), ?_⟩
   refine Y.t 13 H rfl rfl (fun w H => Ev.nilCheckP rfl) <| Y.t 14 H rfl rfl (fun w H => Y.f rfl rfl) <| Y.A1 15 rfl rfl <| Y.st 2 Hf rfl (cS rfl) rfl ?_
   clear H Hf; intro w Hf
   have H := Hf.reidx (L' := [⟨g3, 158, [I nd, I ds]⟩]) [1] (by decide) rfl
   replace Hf := Hf.reidx (L' := [⟨gq, 180, qCells (some ⟨ga, 0, none⟩) (h.length + 1) cap' p⟩, ⟨ga, 182, (h.flatMap entCells ++ entCells ⟨nd, ds, p⟩) ++ sp⟩]) [2, 3] (by decide) rfl
   refine Y.z <| ⟨(H), ?_⟩
   refine Y.dn ?_
   exact ⟨Y.ag, ga, sp, cap', hO, Hf⟩
  ·try replace Hf := Hf.toBelow hbw2
   refine Y.v (Y.l Hf 1 rfl rfl rfl) <| Y.z <| ⟨(H), ?_⟩
   refine Y.t 10 H rfl rfl (fun w H => Ev.build (bld_182_0_1 rfl rfl)) ?_
   refine Y.A2 4 11 rfl rfl rfl ?_ ?_
   ·try replace Hf := Hf.toBelow hbw2
    refine Y.v (Y.l Hf 1 rfl rfl rfl) <| Y.z <| ⟨(H), ?_⟩
    refine Y.A1 11 rfl rfl <| OPS.buildSlice rfl rfl rfl rfl (bsl_178_1_0 rfl) Hf ?_
    clear H Hf; intro g18 w Hf
    have H := Hf.reidx (L' := [⟨g3, 158, [I nd, I ds]⟩]) [1] (by decide) rfl
    refine Y.z <| ⟨(H), ?_⟩
    refine Y.A1 12 rfl rfl <| OPS.append (m := 1) (news := entCells ⟨nd, ds, p⟩) (R := [⟨g18, 182, entCells ⟨nd, ds, p⟩⟩, ⟨g3, 158, [I nd, I ds]⟩, ⟨gq, 180, qCells A h.length cap p⟩]) rfl rfl rfl rfl rfl (sl_run rfl) rfl rfl hO rfl (src_own Hf 0 rfl) rfl (by omega) (by unfold maxLen; omega) Hf (List.Perm.refl _) ?_
    clear H Hf hO; intro A' cap' Lo w hO Hf
    obtain ⟨ga, sp, rfl, rfl, _, _, hsl⟩ : ∃ g sp, A' = some ⟨g, 0, none⟩ ∧ Lo = [⟨g, 182, (h.flatMap entCells ++ entCells ⟨nd, ds, p⟩) ++ sp⟩] ∧ h.length + 1 ≤ cap' ∧ cap' ≤ maxLen ∧ ((h.flatMap entCells ++ entCells ⟨nd, ds, p⟩) ++ sp).length = cap' * 3 := by
     rcases hO.form with ⟨_, h, _⟩ | h
     ·omega
     ·exact h
    unfold qCells at Hf
    have H := Hf.reidx (L' := [⟨g3, 158, [I nd, I ds]⟩]) [1] (by decide) rfl
    refine Y.z <| ⟨(H), ?_⟩
    refine Y.t 13 H rfl rfl (fun w H => Ev.nilCheckP rfl) <| Y.t 14 H rfl rfl (fun w H => Y.f rfl rfl) <| Y.A1 15 rfl rfl <| Y.st 2 Hf rfl (cS rfl) rfl ?_
    clear H Hf; intro w Hf
    have H := Hf.reidx (L' := [⟨g3, 158, [I nd, I ds]⟩]) [1] (by decide) rfl
    replace Hf := Hf.reidx (L' := [⟨gq, 180, qCells (some ⟨ga, 0, none⟩) (h.length + 1) cap' p⟩, ⟨ga, 182, (h.flatMap entCells ++ entCells ⟨nd, ds, p⟩) ++ sp⟩]) [2, 3] (by decide) rfl
    refine Y.z <| ⟨(H), ?_⟩
    refine Y.dn ?_
    exact ⟨Y.ag, ga, sp, cap', hO, Hf⟩
   ·refine OPS.buildSlice rfl rfl rfl rfl (bsl_178_1_0 rfl) Hf ?_
    clear H Hf; intro g18 w Hf
    have H := Hf.reidx (L' := [⟨g3, 158, [I nd, I ds]⟩]) [1] (by decide) rfl
    refine Y.z <| ⟨(H), ?_⟩
    refine Y.A1 4 rfl rfl ?_
    try replace Hf := Hf.toBelow hbw2
    refine Y.v (Y.l Hf 2 rfl rfl rfl) <| Y.z <| ⟨(H), ?_⟩
    refine Y.A1 12 rfl rfl <| OPS.append (m := 1) (news := entCells ⟨nd, ds, p⟩) (R := [⟨g18, 182, entCells ⟨nd, ds, p⟩⟩, ⟨g3, 158, [I nd, I ds]⟩, ⟨gq, 180, qCells A h.length cap p⟩]) rfl rfl rfl rfl rfl (sl_run rfl) rfl rfl hO rfl (src_own Hf 0 rfl) rfl (by omega) (by unfold maxLen; omega) Hf (List.Perm.refl _) ?_
    clear H Hf hO; intro A' cap' Lo w hO Hf
    obtain ⟨ga, sp, rfl, rfl, _, _, hsl⟩ : ∃ g sp, A' = some ⟨g, 0, none⟩ ∧ Lo = [⟨g, 182, (h.flatMap entCells ++ entCells ⟨nd, ds, p⟩) ++ sp⟩] ∧ h.length + 1 ≤ cap' ∧ cap' ≤ maxLen ∧ ((h.flatMap entCells ++ entCells ⟨nd, ds, p⟩) ++ sp).length = cap' * 3 := by
     rcases hO.form with ⟨_, h, _⟩ | h
     ·omega
     ·exact h
    unfold qCells at Hf
    have H := Hf.reidx (L' := [⟨g3, 158, [I nd, I ds]⟩]) [1] (by decide) rfl
    refine Y.z <| ⟨(H), ?_⟩
    refine Y.t 13 H rfl rfl (fun w H => Ev.nilCheckP rfl) <| Y.t 14 H rfl rfl (fun w H => Y.f rfl rfl) <| Y.A1 15 rfl rfl <| Y.st 2 Hf rfl (cS rfl) rfl ?_
    clear H Hf; intro w Hf
    have H := Hf.reidx (L' := [⟨g3, 158, [I nd, I ds]⟩]) [1] (by decide) rfl
    replace Hf := Hf.reidx (L' := [⟨gq, 180, qCells (some ⟨ga, 0, none⟩) (h.length + 1) cap' p⟩, ⟨ga, 182, (h.flatMap entCells ++ entCells ⟨nd, ds, p⟩) ++ sp⟩]) [2, 3] (by decide) rfl
    refine Y.z <| ⟨(H), ?_⟩
    refine Y.dn ?_
    exact ⟨Y.ag, ga, sp, cap', hO, Hf⟩
 clear H
 rintro u w ⟨ga, sp, cap', hO, H⟩
 have e1 : (h ++ [(⟨nd, ds, p⟩ : Ent)]).flatMap entCells = h.flatMap entCells ++ entCells ⟨nd, ds, p⟩ := by simp
 have e2 : (h ++ [(⟨nd, ds, p⟩ : Ent)]).length = h.length + 1 := by simp
 rw [← e1, ← e2] at H hO
 have hup := UpOk.start hh (⟨nd, ds, p⟩ : Ent)
 unfold qCells at H
 refine Y.qr <| Y.v (Ev.mvP rfl) <| Y.v (Ev.nilCheckP rfl) <| Y.fa rfl rfl <| Y.j H 0 rfl rfl rfl <| Y.v (Y.p rfl rfl) <| Y.v (Ev.nilCheckP rfl) <| Y.fa rfl rfl <| Y.ss 0 H rfl (cI rfl) rfl ?_
 clear H; intro w H
 refine Y.z <| Y.qr <| Y.v (Ev.mvP rfl) <| Y.v (Ev.nilCheckP rfl) <| Y.fa rfl rfl <| Y.j H 0 rfl rfl rfl <| Y.v (Y.n rfl) <| Y.v (Y.s rfl rfl) <| Y.b rfl <| Y.z <| WP.block <| WP.loop [4, 35, 36, 37, 38, 39, 40, 41, 42, 43, 44, 45, 46, 47, 48, 49, 50, 51, 52, 53] (fun g e w' => ∃ (i : Nat) (h1 : List Ent), i = g ∧ e 4 = I i ∧ SH w0 S w' (qBlks gq ga h1 cap' (p + 1) sp) ∧ h1.Perm (h ++ [⟨nd, ds, p⟩]) ∧ UpOk entLt h1 i) (h.length) (⟨h.length, h ++ [(⟨nd, ds, p⟩ : Ent)], rfl, by rw [show (((h ++ [(⟨nd, ds, p⟩ : Ent)]).length : Nat) : Int) - 1 = (h.length : Nat) from by rw [e2]; omega]; rfl, H, List.Perm.refl _, hup⟩) ?_
 clear H
 rintro g u w ⟨i, h1, rfl, h4, H, hpm, hu⟩
 refine WP.know (t := 4) h4 ?_
 have hlen := hpm.length_eq
 have hil := hu.lt'
 unfold qBlks qCells at H
 refine Y.q <| Y.q ?_
 skip
 refine Y.r <| Y.a rfl <| Y.v (Ev.gtr rfl rfl) <| Y.v (Ev.mvB rfl) <| Y.g rfl rfl (fun hg => Ev.mvP rfl) <| Y.g rfl rfl (fun hg => Y.m rfl) <| Y.g rfl rfl (fun hg => Y.m rfl) <| Y.g rfl rfl (fun hg => Ev.sub (gvE hg rfl) rfl (by unfold fits; omega)) <| Y.g rfl rfl (fun hg => Ev.quo (gvE hg rfl) rfl (by simp at hg; omega) (by omega) (by omega)) <| OPS.gcall (f := 91) (args := [.pointer (some ⟨gq, 0, none⟩), I i, I (((i : Int) - 1) / 2)]) (v := .bool (entLt (h1.getD i default) (h1.getD ((i - 1) / 2) default))) rfl rfl rfl rfl rfl (fun hg => EvC.conv (EvC.func (fun_run rfl)) (l3 (gvE hg rfl) (gvE hg rfl) (gvE hg rfl))) (fun hg => qBeforeI gq ga cap' i ((i - 1) / 2) _ _ (p + 1) h1 sp w0 w S _ rfl (by simp at hg; omega) H rfl rfl hil (by omega)) ?_
 intro w hbc; replace H := H.toBelow hbc; clear hbc
 refine Y.v (Ev.pickAnd rfl rfl rfl) <| Y.z ?_
 refine WP.cond rfl (fun hc5 => ?_) (fun hc5 => ?_)
 ·rw [Bool.and_eq_true, decide_eq_true_eq] at hc5
  have hi0 : 0 < i := by omega
  refine Y.k <| Y.q <| WP.block <| Y.r <| Y.v (Ev.mvP rfl) <| Y.a rfl <| Y.a rfl <| Y.v (Y.s rfl rfl) <| Y.v (Ev.quo rfl rfl (by omega) (by omega) (by omega)) <| OPS.call (d := some 53) rfl rfl rfl (EvC.func (fun_run rfl)) (qSwapI gq ga cap' i ((i - 1) / 2) _ _ (p + 1) h1 sp w0 w S rfl (by omega) H hil (by omega)) ?_
  rintro _ w ⟨rfl, H2⟩
  refine ⟨_, rfl, ?_⟩
  replace H := H2; clear H2
  refine Y.z <| Y.r <| Y.a rfl <| Y.v (Y.s rfl rfl) <| Y.v (Ev.quo rfl rfl (by omega) (by omega) (by omega)) <| Y.b rfl <| Y.z ?_
  exact ⟨Y.ag, (i - 1) / 2, by omega, (i - 1) / 2, swapL h1 i ((i - 1) / 2), rfl, by rw [show (((i - 1) / 2 : Nat) : Int) = ((i : Int) - 1) / 2 from by omega]; rfl, H, (swapL_perm hil (by omega)).trans hpm, hu.step entLtOk hi0 hc5.2⟩
 refine WP.exit <| XB.hit <| ⟨_, rfl, ?_⟩
 have hfin : HeapOk entLt h1 := hu.done (by
  rcases Nat.eq_zero_or_pos i with h0 | h0
  ·exact .inl h0
  ·refine .inr ?_
   have q : decide ((0 : Int) < i) = true := by simp; omega
   rw [q, Bool.true_and] at hc5
   exact hc5)
 have e3 : (h1.flatMap entCells).length = ((h ++ [(⟨nd, ds, p⟩ : Ent)]).flatMap entCells).length := by rw [rows_length entCells_len, rows_length entCells_len, hlen]
 have hO2 : QOwn (some ⟨ga, 0, none⟩) cap' h1 [⟨ga, 182, h1.flatMap entCells ++ sp⟩] := by
  refine ⟨rows_length entCells_len h1, .inr ⟨ga, sp, rfl, rfl, ?_⟩⟩
  rcases hO.form with ⟨_, q, _⟩ | ⟨g', sp', q1, q2, q3, q4, q5⟩
  ·rw [e2] at q; omega
  ·have q6 : sp' = sp := by
    simp only [List.cons.injEq, Blk.mk.injEq, and_true, true_and] at q2
    exact (List.append_cancel_left q2.2).symm
   subst q6
   refine ⟨by rw [hlen]; exact q3, q4, ?_⟩
   rw [List.length_append] at q5 ⊢
   rw [e3]; exact q5
 exact ⟨rfl, _, cap', h1, _, hpm, hfin, hO2, H⟩
end Go.Proofs.YthobaaefdehoiaaGreat.Flo

/-
 Walk: the priority queue of labels: Pop.
-/
set_option linter.all false
namespace Go.Proofs.YthobaaefdehoiaaGreat.Flo
open Go Go.W Go.RowKit
theorem qRows {A : Option Addr} {cap gq : Nat} {p : Int} {h : List Ent} {Lo : List Blk} {w0 w : World} {S : List Nat} (hO : QOwn A cap h Lo) (H : SH w0 S w (qLv gq A cap h p Lo)) : RowsAt 3 entCells w A h := by
 rcases hO.form with ⟨_, q, _, _⟩ | ⟨g, sp, rfl, rfl, _⟩
 ·rw [List.length_eq_zero_iff.1 q]; exact RowsAt.nil
 ·exact rowsOwn entCells_len H 1 rfl
theorem popL_set (h : List Ent) (z : Ent) (hl : 0 < h.length) : (swapL h 0 (h.length - 1)).set (h.length - 1) z = popL h ++ [z] := by
 have e : (swapL h 0 (h.length - 1)).length = h.length := swapL_length ..
 rw [List.set_eq_take_append_cons_drop, if_pos (by omega), List.drop_eq_nil_of_le (by omega)]; rfl
def popV (x : Ent) (b : Bool) : Value := .tuple #[labV x, .bool b]
set_option maxHeartbeats 400000 in
theorem qPop (gq cap : Nat) (A : Option Addr) (p : Int) (h : List Ent) (Lo : List Blk) (w0 : World) (S : List Nat) (hO : QOwn A cap h Lo) (hh : HeapOk entLt h) (hl : h.length ≤ 1000000) (H0 : SH w0 S w0 (qLv gq A cap h p Lo)) :
  Calls Tryz.prog 76 #[.pointer (some ⟨gq, 0, none⟩)] w0 fun e w' =>
   (h = [] ∧ e = .returned (popV ⟨0, 0, 0⟩ false) ∧ SH w0 S w' (qLv gq A cap h p Lo)) ∨
   ∃ (x : Ent) (t h' : List Ent) (Lo' : List Blk), h = x :: t ∧ e = .returned (popV x true) ∧ (x :: h').Perm h ∧ HeapOk entLt h' ∧ QOwn A cap h' Lo' ∧ SH w0 S w' (qLv gq A cap h' p Lo') := by
 have H := H0
 have hrow : ∀ w, SH w0 S w (qLv gq A cap h p Lo) → RowsAt 3 entCells w A h := fun w H => qRows hO H
 refine Calls.ofWPc Tryz.func76 rfl Tryz.results76 Tryz.ntmps76 rfl <| Y.qr <| Y.al H rfl rfl ?_
 clear H; intro g2 w H
 refine Y.v (Ev.asB rfl) <| Y.z <| Y.q ?_
 have Hq := H.reidx (L' := [⟨gq, 180, qCells A h.length cap p⟩]) [1] (by decide) rfl
 have hr1 := hrow w (Y.d1 H)
 have hq1 : cellsAt w gq 0 (qCells A h.length cap p) := cellsAt_own H 1 rfl _ 0 fun j hj => by rw [Nat.zero_add]; exact List.getElem?_eq_getElem hj
 clear Hq
 refine Y.r <| Y.v (Ev.mvP rfl) <| OPS.call (d := some 9) rfl rfl rfl (EvC.func (fun_run rfl)) (qPeek gq cap A p h _ hq1 hr1) ?_
 rintro _ w ⟨rfl, hb⟩
 refine ⟨_, rfl, ?_⟩
 replace H := H.toBelow hb; clear hb
 refine Y.v (Ev.mvT rfl) <| Y.v (Ev.extract rfl rfl) <| Y.v (Ev.extract rfl rfl) <| Y.al H rfl rfl ?_
 clear H; intro g4 w H
 refine Y.ss 0 H rfl (cA rfl) rfl ?_
 clear H; intro w H
 refine Y.v (Ev.asB rfl) <| Y.z <| Y.q <| Y.qr <| Y.v (Ev.mvB rfl) <| Y.v (Ev.not rfl) <| Y.z ?_
 refine WP.cond rfl (fun hc2 => ?_) (fun hc2 => ?_)
 ·have h0 : h = [] := by cases h with | nil => rfl | cons x t => simp at hc2
  subst h0
  refine Y.qr <| Y.v (Y.o H 0 rfl rfl) <| Y.ss 1 H rfl (cA rfl) rfl ?_
  clear H; intro w H
  refine Y.v (Ev.asB rfl) <| Y.z ?_
  refine WP.ret ⟨[_, _], ⟨(by exact resCellA 1 H rfl (agg_run rfl) (size_run rfl) (by rfl) rfl), rfl, trivial⟩, ?_⟩
  exact .inl ⟨rfl, rfl, H.drop ((List.sublist_cons_self _ _).trans (List.sublist_cons_self _ _))⟩
 obtain ⟨x, t, rfl⟩ : ∃ x t, h = x :: t := by cases h with | nil => simp at hc2 | cons x t => exact ⟨x, t, rfl⟩
 obtain ⟨ga, sp, rfl, rfl, hcap, hmx, hsl⟩ : ∃ g sp, A = some ⟨g, 0, none⟩ ∧ Lo = [⟨g, 182, (x :: t).flatMap entCells ++ sp⟩] ∧ (x :: t).length ≤ cap ∧ cap ≤ maxLen ∧ ((x :: t).flatMap entCells ++ sp).length = cap * 3 := by
  rcases hO.form with ⟨_, h, _⟩ | h
  ·simp at h
  ·exact h
 simp only [List.length_cons] at hcap hl
 have hlc : (x :: t).length = t.length + 1 := rfl
 unfold qLv qCells at H
 refine Y.k <| Y.qr <| Y.v (Ev.mvP rfl) <| Y.v (Ev.nilCheckP rfl) <| Y.fa rfl rfl <| Y.j H 2 rfl rfl rfl <| Y.v (Y.n rfl) <| Y.v (Y.s rfl rfl) <| Y.b rfl <| Y.z <| Y.qr <| Y.v (Ev.mvP rfl) <| Y.a rfl <| OPS.call (d := some 23) rfl rfl rfl (EvC.func (fun_run rfl)) (qSwapI gq ga cap 0 t.length _ _ p (x :: t) sp w w (qBlks gq ga (x :: t) cap p sp |>.map (·.g)) rfl (by simp only [List.length_cons]; omega) (SH.restart H (Lv := qBlks gq ga (x :: t) cap p sp) ((List.sublist_cons_self _ _).trans (List.sublist_cons_self _ _))) (by simp) (by simp)) ?_
 rintro _ w ⟨rfl, H2⟩
 refine ⟨_, rfl, ?_⟩
 replace H := SH.call (Lv := qBlks gq ga (x :: t) cap p sp) (L1 := [_, _]) H H2
 clear H2
 unfold qBlks qCells at H
 rw [swapL_length] at H
 refine Y.z <| Y.qr <| Y.v (Ev.mvP rfl) <| Y.v (Ev.nilCheckP rfl) <| Y.fa rfl rfl <| Y.j H 2 rfl rfl rfl <| Y.a rfl <| Y.v (Ev.sliceFrom2 (j := t.length) (el_run rfl) (size_run rfl) rfl rfl (by simp only [List.length_cons]; omega) (by simp) (by omega)) <| OPS.clear 3 _ rfl rfl rfl (zs := entCells ⟨0, 0, 0⟩) (el_run rfl) (zero_run rfl) rfl (by decide) rfl rfl (by simp) H rfl (by simp only [List.length_append, rows_length entCells_len, swapL_length, hlc, entCells_len]; omega) ?_
 clear H; intro w H
 simp only [List.set_cons_zero, List.set_cons_succ] at H
 rw [show (x :: t).length - t.length = 1 from by rw [hlc]; omega, show mkL 1 (entCells ⟨0, 0, 0⟩) = entCells ⟨0, 0, 0⟩ from rfl, putL_ents _ _ _ _ (by rw [swapL_length, hlc]; omega),
  show (swapL (x :: t) 0 t.length).set t.length ⟨0, 0, 0⟩ = popL (x :: t) ++ [⟨0, 0, 0⟩] from popL_set (x :: t) _ (by simp), List.flatMap_append, List.append_assoc] at H
 refine Y.z <| Y.qr <| Y.v (Ev.mvP rfl) <| Y.v (Ev.mvP rfl) <| Y.v (Ev.nilCheckP rfl) <| Y.fa rfl rfl <| Y.j H 2 rfl rfl rfl <| Y.a rfl <| Y.v (Ev.sliceTo (j := t.length) (el_run rfl) ⟨3, size_run rfl⟩ rfl rfl (by simp only [List.length_cons]; omega) (by omega)) <| Y.v (Ev.nilCheckP rfl) <| Y.fa rfl rfl <| Y.ss 2 H rfl (cS rfl) rfl ?_
 clear H; intro w H
 refine Y.z <| Y.qr <| Y.v (Ev.mvP rfl) <| OPS.call (d := some 40) rfl rfl rfl (EvC.func (fun_run rfl)) (qSink gq ga cap p (popL (x :: t)) ([⟨0, 0, 0⟩].flatMap entCells ++ sp) w (qBlks gq ga (popL (x :: t)) cap p ([⟨0, 0, 0⟩].flatMap entCells ++ sp) |>.map (·.g)) (DownOk.start hh) (by rw [popL_length, hlc]; omega) (SH.restart H (Lv := qBlks gq ga (popL (x :: t)) cap p ([⟨0, 0, 0⟩].flatMap entCells ++ sp)) (by unfold qBlks qCells; rw [popL_length]; exact ((List.sublist_cons_self _ _).trans (List.sublist_cons_self _ _))))) ?_
 rintro _ w ⟨rfl, h', hp', hh', H2⟩
 refine ⟨_, rfl, ?_⟩
 replace H := SH.call (Lv := qBlks gq ga (popL (x :: t)) cap p ([⟨0, 0, 0⟩].flatMap entCells ++ sp)) (L1 := [⟨g4, 158, labCells x⟩, ⟨g2, 158, [I 0, I 0]⟩]) (by unfold qBlks qCells; rw [popL_length]; exact H) H2
 clear H2
 have hlen' : h'.length = t.length := by rw [hp'.length_eq, popL_length]; rfl
 unfold qBlks labCells at H
 refine Y.z <| Y.qr <| Y.v (Y.o H 0 rfl rfl) <| Y.ss 1 H rfl (cA rfl) rfl ?_
 clear H; intro w H
 refine Y.v (Ev.asB rfl) <| Y.z ?_
 refine WP.ret ⟨[_, _], ⟨(by exact resCellA 1 H rfl (agg_run rfl) (size_run rfl) (by rfl) rfl), rfl, trivial⟩, ?_⟩
 refine .inr ⟨x, t, h', [⟨ga, 182, h'.flatMap entCells ++ ([⟨0, 0, 0⟩].flatMap entCells ++ sp)⟩], rfl, rfl, (List.Perm.cons x hp').trans popL_perm, hh', ⟨rows_length entCells_len h', .inr ⟨ga, _, rfl, rfl, by omega, hmx, ?_⟩⟩, H.drop ((List.sublist_cons_self _ _).trans (List.sublist_cons_self _ _))⟩
 rw [← hsl]
 simp only [List.length_append, rows_length entCells_len, hlen', hlc, List.length_cons, List.length_nil]
 omega
theorem qPop2 (gq cap : Nat) (A : Option Addr) (p : Int) (h : List Ent) (Lo : List Blk) (w0 : World) (S : List Nat) (hO : QOwn A cap h Lo) (hh : HeapOk entLt h) (hl : h.length ≤ 1000000) (H0 : SH w0 S w0 (qLv gq A cap h p Lo)) :
  Calls Tryz.prog 76 #[.pointer (some ⟨gq, 0, none⟩)] w0 fun e w' =>
   ∃ (x : Ent) (b : Bool) (h' : List Ent) (Lo' : List Blk), e = .returned (popV x b) ∧ (b = false → h = [] ∧ h' = []) ∧ (b = true → (x :: h').Perm h ∧ ∀ z ∈ h, x.dist ≤ z.dist) ∧ HeapOk entLt h' ∧ QOwn A cap h' Lo' ∧ SH w0 S w' (qLv gq A cap h' p Lo') := by
 refine (qPop gq cap A p h Lo w0 S hO hh hl H0).mono fun e w' hr => ?_
 rcases hr with ⟨rfl, he, H⟩ | ⟨x, t, h', Lo', rfl, he, hp, hh', hO', H⟩
 ·exact ⟨⟨0, 0, 0⟩, false, [], Lo, he, fun _ => ⟨rfl, rfl⟩, (fun h => by cases h), hh, hO, H⟩
 ·refine ⟨x, true, h', Lo', he, (fun h => by cases h), fun _ => ⟨hp, fun z hz => ?_⟩, hh', hO', H⟩
  have := hh.root_le entLtOk z hz
  unfold entLt at this
  simp only [Bool.or_eq_false_iff, decide_eq_false_iff_not] at this
  omega
end Go.Proofs.YthobaaefdehoiaaGreat.Flo

/-
 Walk: the function that nearest hands to each.
-/
set_option linter.all false
namespace Go.Proofs.YthobaaefdehoiaaGreat.Flo
open Go Go.W Go.RowKit
structure NAdr where
 gx : Nat
 gdo : Nat
 gpo : Nat
 gst : Nat
 gdi : Nat
 gwa : Nat
 gS : Nat
 gI : Nat
 gD : Nat
 gq : Nat
structure NSt where
 sts : List Step
 dist : List Int
 h : List Ent
 p : Int
 A : Option Addr
 cap : Nat
 Lo : List Blk
def nVars (g : NAdr) (n x : Nat) (xd : Int) (Ap : Option Addr) (np capp : Nat) : List Blk :=
 [⟨g.gx, 158, [I x, I xd]⟩, ⟨g.gdo, 137, [.slice (some ⟨g.gD, 0, none⟩) n n]⟩, ⟨g.gpo, 30, [.slice Ap np capp]⟩, ⟨g.gst, 128, [.slice (some ⟨g.gS, 0, none⟩) n n]⟩, ⟨g.gdi, 30, [.slice (some ⟨g.gI, 0, none⟩) n n]⟩, ⟨g.gwa, 155, [.pointer (some ⟨g.gq, 0, none⟩)]⟩]
def nLv (g : NAdr) (n x : Nat) (xd : Int) (Ap : Option Addr) (np capp : Nat) (done : List Bool) (s : NSt) : List Blk :=
 nVars g n x xd Ap np capp ++ ([⟨g.gD, 4, done.map Bo⟩, ⟨g.gS, 132, s.sts.flatMap stepCells⟩, ⟨g.gI, 3, s.dist.map I⟩] ++ qLv g.gq s.A s.cap s.h s.p s.Lo)
def nVisC (x : Nat) (xd : Int) (pots : List Int) (done : List Bool) (s : NSt) (a b : Nat) (cost : Int) : Bool :=
 (decide (a = x) && !done.getD b false) && ((!(s.sts.getD b default).known) || decide (xd + cost + pots.getD a 0 - pots.getD b 0 < s.dist.getD b 0))
def NVis (x : Nat) (xd : Int) (pots : List Int) (done : List Bool) (a b arc : Nat) (room cost : Int) (fwd : Bool) (s s' : NSt) : Prop :=
 if nVisC x xd pots done s a b cost = true then
  s'.sts = s.sts.set b ⟨a, arc, room, fwd, true, 0⟩ ∧ s'.dist = s.dist.set b (xd + cost + pots.getD a 0 - pots.getD b 0) ∧ s'.h.Perm (s.h ++ [⟨b, xd + cost + pots.getD a 0 - pots.getD b 0, s.p⟩]) ∧ s'.p = s.p + 1
 else s'.sts = s.sts ∧ s'.dist = s.dist ∧ s'.h = s.h ∧ s'.p = s.p
structure NStOk (n : Nat) (s : NSt) : Prop where
 slen : s.sts.length = n
 dlen : s.dist.length = n
 own : QOwn s.A s.cap s.h s.Lo
 heap : HeapOk entLt s.h
set_option maxHeartbeats 1000000 in
theorem nearVisit (g : NAdr) (n x a b arc : Nat) (xd room cost : Int) (fwd : Bool) (Ap : Option Addr) (capp : Nat) (pots : List Int) (done : List Bool) (s : NSt) (w0 : World) (S : List Nat) (hok : NStOk n s) (hpl : pots.length = n) (hdl : done.length = n)
  (ha : a < n) (hb : b < n) (hp : IntsAt w0 Ap pots) (hpo : ∀ i (h : i < pots.length), -1000000000000 ≤ pots[i] ∧ pots[i] ≤ 1000000000000) (hxd : -1000000000000 ≤ xd ∧ xd ≤ 1000000000000) (hco : -1000000000000 ≤ cost ∧ cost ≤ 1000000000000)
  (hl : s.h.length ≤ 1000000) (hpp : 0 ≤ s.p ∧ s.p ≤ 1000000000) (hoff : pots ≠ [] → Off Ap S) (H0 : SH w0 S w0 (nLv g n x xd Ap n capp done s)) :
  Calls Tryz.prog 78 #[I a, I b, I arc, I room, I cost, .bool fwd, .pointer (some ⟨g.gx, 0, none⟩), .pointer (some ⟨g.gdo, 0, none⟩), .pointer (some ⟨g.gpo, 0, none⟩), .pointer (some ⟨g.gst, 0, none⟩), .pointer (some ⟨g.gdi, 0, none⟩), .pointer (some ⟨g.gwa, 0, none⟩)] w0
   fun e w' => e = .returned (.tuple #[]) ∧ ∃ s', NVis x xd pots done a b arc room cost fwd s s' ∧ NStOk n s' ∧ SH w0 S w' (nLv g n x xd Ap n capp done s') := by
 have H := H0
 simp only [nLv, nVars, qLv, qCells, List.cons_append, List.nil_append] at H
 have hs1 : s.sts.getD b default = s.sts[b]'(by rw [hok.slen]; exact hb) := by simp [hok.slen, hb]
 have hd1 : s.dist.getD b 0 = s.dist[b]'(by rw [hok.dlen]; exact hb) := by simp [hok.dlen, hb]
 have hpa : pots.getD a 0 = pots[a]'(by omega) := by simp [hpl, ha]
 have hpb : pots.getD b 0 = pots[b]'(by omega) := by simp [hpl, hb]
 have hdb : done.getD b false = done[b]'(by omega) := by simp [hdl, hb]
 have ho1 := hpo a (by omega)
 have ho2 := hpo b (by omega)
 refine Calls.ofWP Tryz.func78 rfl Tryz.results78 Tryz.ntmps78 rfl <| Y.q <| Y.qr ?_
 obtain ⟨_, _, e1, hxd1⟩ := onesOwn H 6 rfl b (by omega)
 cases e1
 refine Y.a rfl <| Y.fa rfl rfl <| Y.j H 0 rfl rfl rfl <| Y.v (Ev.neq rfl rfl) <| Y.v (Ev.mvB rfl) <| Y.g rfl rfl (fun hg => Y.l H 1 rfl rfl rfl) <| Y.g rfl rfl (fun hg => Y.m rfl) <| Y.g rfl rfl (fun hg => Ev.indexAddr1 (el_run rfl) (size_run rfl) (gvE hg rfl) (gvE hg rfl) rfl (by omega)) <| Y.g rfl rfl (fun hg => Ev.load1 (agg_run rfl) (gvE hg rfl) (by assumption)) ?_
 refine Y.v (Ev.pickOr rfl rfl rfl) <| Y.z ?_
 refine WP.cond rfl (fun hc0 => ?_) (fun hc0 => ?_)
 ·refine WP.ret ⟨_, rfl, ?_⟩
  have hcc : nVisC x xd pots done s a b cost = false := by
   unfold nVisC
   rw [hdb]
   have h2 : (decide (a = x) && !done[b]) = false := by
    by_cases q : a = x
    ·subst q; simpa using hc0
    ·simp [q]
   rw [h2]; rfl
  exact ⟨rfl, s, by unfold NVis; rw [if_neg (by rw [hcc]; simp)]; exact ⟨rfl, rfl, rfl, rfl⟩, hok, H⟩
 have hax : a = x := by
  by_cases q : a = x
  ·exact q
  ·exfalso; have q2 : ¬ ((a : Int) = x) := by omega
   simp [q2] at hc0
 subst hax
 have hdf : done[b] = false := by simpa using hc0
 obtain ⟨bp, op, rfl, hpa1⟩ := hp a (by omega)
 obtain ⟨_, _, e1, hpb1⟩ := hp b (by omega)
 cases e1
 have hbS : bp ∉ S := hoff (List.ne_nil_of_length_pos (by omega)) bp op rfl
 refine Y.k <| Y.q <| WP.rstill mixed (by kernel_rfl) H ?_
 clear H; intro w hbw1 H
 refine Y.fa rfl rfl <| Y.j H 0 rfl rfl rfl <| Y.a rfl <| Y.v (Y.p rfl rfl) <| Y.j H 2 rfl rfl rfl <| Y.a rfl <| Y.v (Y.x rfl rfl rfl rfl) <| Y.v (Y.c (H.ldS (by assumption) (by assumption)) rfl) ?_
 refine Y.v (Y.p rfl rfl) <| Y.j H 2 rfl rfl rfl <| Y.a rfl <| Y.v (Y.x rfl rfl rfl rfl) <| Y.v (Y.c (H.ldS (by assumption) (by assumption)) rfl) ?_
 refine Y.v (Y.s rfl rfl) <| Y.b rfl <| OPS.nil_s <| Y.qr ?_
 obtain ⟨_, _, e1, a0, a1, a2, a3, a4, a5, _⟩ := rowsOwn' stepCells_len H 7 rfl b (by rw [hok.slen]; exact hb)
 cases e1
 obtain ⟨_, _, e1, hdd⟩ := onesOwn H 8 rfl b (by rw [hok.dlen]; exact hb)
 cases e1
 refine Y.j H 3 rfl rfl rfl <| Y.a rfl <| Y.v (Y.X rfl rfl rfl rfl rfl) <| Y.fa rfl rfl <| Y.v (Y.c (by assumption) rfl) ?_
 refine Y.v (Ev.not rfl) <| Y.v (Ev.mvB rfl) <| Y.g rfl rfl (fun hg => Y.m rfl) <| Y.g rfl rfl (fun hg => Y.l H 4 rfl rfl rfl) <| Y.g rfl rfl (fun hg => Y.m rfl) <| Y.g rfl rfl (fun hg => Ev.indexAddr1 (el_run rfl) (size_run rfl) (gvE hg rfl) (gvE hg rfl) rfl (by omega)) <| Y.g rfl rfl (fun hg => Ev.load1 (agg_run rfl) (gvE hg rfl) (by assumption)) ?_
 refine Y.g rfl rfl (fun hg => Ev.lss (gvE hg rfl) (gvE hg rfl)) <| Y.v (Ev.pickOr rfl rfl rfl) <| Y.z ?_
 refine WP.cond rfl (fun hc2 => ?_) (fun hc2 => ?_)
 ·have hcc : nVisC a xd pots done s a b cost = true := by
   unfold nVisC
   rw [hdb, hs1, hd1, hdf, hpa, hpb]
   simpa using hc2
  refine Y.q ?_
  have Hf := H
  replace H := H.reidx (L' := nVars g n a xd (some ⟨bp, op, none⟩) n capp) [0, 1, 2, 3, 4, 5] (by decide) rfl
  unfold nVars at H
  have hpu1 : putL (s.sts.flatMap stepCells) (0 + b * 6) (stepCells ⟨a, arc, room, fwd, true, 0⟩) = (s.sts.set b ⟨a, arc, room, fwd, true, 0⟩).flatMap stepCells := by rw [Nat.zero_add]; exact putL_rows stepCells_len s.sts b _ (by rw [hok.slen]; exact hb)
  have hpu2 : putL (s.dist.map I) (0 + b) [I (xd + cost + pots[a] - pots[b])] = (s.dist.set b (xd + cost + pots[a] - pots[b])).map I := by rw [Nat.zero_add]; exact putL_ones s.dist b _
  refine WP.rheldC [57, 58, 59, 60, 61, 62, 63, 64, 65, 66, 67, 68] (fun _ w' => SH w0 S w' (nLv g n a xd (some ⟨bp, op, none⟩) n capp done ⟨s.sts.set b ⟨a, arc, room, fwd, true, 0⟩, s.dist.set b (xd + cost + pots[a] - pots[b]), s.h, s.p, s.A, s.cap, s.Lo⟩)) mixed H ?_ ?_
  ·clear H; intro w hbw3 H
   refine Y.t 0 H rfl rfl (fun w H => Y.l H 3 rfl rfl rfl) <| Y.t 1 H rfl rfl (fun w H => Y.m rfl) <| Y.t 2 H rfl rfl (fun w H => Y.l H 4 rfl rfl rfl) <| Y.t 3 H rfl rfl (fun w H => Y.m rfl) <| Y.t 4 H rfl rfl (fun w H => Y.m rfl) <| Y.t 5 H rfl rfl (fun w H => Y.m rfl) <| Y.t 6 H rfl rfl (fun w H => Y.m rfl) <| Y.t 7 H rfl rfl (fun w H => Ev.mvB rfl) <| Y.t 8 H rfl rfl (fun w H => Ev.build (bld_132_0_1_2_3_4 rfl rfl rfl rfl rfl)) <| Y.t 9 H rfl rfl (fun w H => Y.m rfl) <| Y.t 10 H rfl rfl (fun w H => Y.X rfl rfl rfl rfl rfl) <| Y.A1 11 rfl rfl ?_
   try replace Hf := Hf.toBelow hbw3
   refine OPS.store (vs := stepCells ⟨a, arc, room, fwd, true, 0⟩) 7 _ rfl rfl rfl (size_run rfl) rfl (cA rfl) rfl rfl Hf rfl (by simp only [rows_length stepCells_len, hok.slen]; omega) ?_
   clear H Hf; intro w Hf
   simp only [List.set_cons_zero, List.set_cons_succ] at Hf
   rw [hpu1] at Hf
   have H := Hf.reidx (L' := nVars g n a xd (some ⟨bp, op, none⟩) n capp) [0, 1, 2, 3, 4, 5] (by decide) rfl
   unfold nVars at H
   refine Y.z <| ⟨(H), ?_⟩
   refine Y.t 12 H rfl rfl (fun w H => Y.x rfl rfl rfl rfl) <| Y.A1 13 rfl rfl ?_
   try replace Hf := Hf.toBelow hbw3
   refine OPS.store (vs := [I (xd + cost + pots[a] - pots[b])]) 8 _ rfl rfl rfl (size_run rfl) rfl (cI rfl) rfl rfl Hf rfl (by simp only [List.length_map, hok.dlen]; omega) ?_
   clear H Hf; intro w Hf
   simp only [List.set_cons_zero, List.set_cons_succ] at Hf
   rw [hpu2] at Hf
   have H := Hf.reidx (L' := nVars g n a xd (some ⟨bp, op, none⟩) n capp) [0, 1, 2, 3, 4, 5] (by decide) rfl
   unfold nVars at H
   refine Y.z <| ⟨(H), ?_⟩
   refine Y.dn ?_
   exact ⟨Y.ag, Hf⟩
  clear H
  rintro u w H
  refine Y.r <| Y.j H 5 rfl rfl rfl <| Y.a rfl <| Y.a rfl <| Y.v (Ev.build (bld_158_0_1 rfl rfl)) <| OPS.call (d := some 73) rfl rfl rfl (EvC.func (fun_run rfl)) (qPush g.gq s.cap s.A s.p _ _ s.h s.Lo w (qLv g.gq s.A s.cap s.h s.p s.Lo |>.map (·.g)) hok.own hok.heap hl hpp (H.restart ((List.sublist_append_right _ _).trans (List.sublist_append_right _ _)))) ?_
  rintro _ w ⟨rfl, A', cap', h', Lo', hpm, hh', hO', H2⟩
  refine ⟨_, rfl, ?_⟩
  replace H := SH.call (Lv := qLv g.gq s.A s.cap s.h s.p s.Lo) (L1 := nVars g n a xd (some ⟨bp, op, none⟩) n capp ++ [⟨g.gD, 4, done.map Bo⟩, ⟨g.gS, 132, (s.sts.set b ⟨a, arc, room, fwd, true, 0⟩).flatMap stepCells⟩, ⟨g.gI, 3, (s.dist.set b (xd + cost + pots[a] - pots[b])).map I⟩]) (by rw [List.append_assoc]; exact H) H2
  rw [List.append_assoc] at H
  have hres : ∃ s', NVis a xd pots done a b arc room cost fwd s s' ∧ NStOk n s' ∧ SH w0 S w (nLv g n a xd (some ⟨bp, op, none⟩) n capp done s') := by
   refine ⟨⟨s.sts.set b ⟨a, arc, room, fwd, true, 0⟩, s.dist.set b (xd + cost + pots[a] - pots[b]), h', s.p + 1, A', cap', Lo'⟩, ?_, ⟨by simp [hok.slen], by simp [hok.dlen], hO', hh'⟩, H⟩
   unfold NVis
   rw [if_pos hcc, hpa, hpb]
   exact ⟨rfl, rfl, hpm, rfl⟩
  refine Y.z <| ⟨_, rfl, ?_⟩
  exact ⟨rfl, hres⟩
 have hcc : nVisC a xd pots done s a b cost = false := by
  unfold nVisC
  rw [hdb, hs1, hd1, hdf, hpa, hpb]
  simpa using hc2
 have hres : ∃ s', NVis a xd pots done a b arc room cost fwd s s' ∧ NStOk n s' ∧ SH w0 S w (nLv g n a xd (some ⟨bp, op, none⟩) n capp done s') := ⟨s, by unfold NVis; rw [if_neg (by rw [hcc]; simp)]; exact ⟨rfl, rfl, rfl, rfl⟩, hok, H⟩
 refine Y.k <| ⟨_, rfl, ?_⟩
 exact ⟨rfl, hres⟩
end Go.Proofs.YthobaaefdehoiaaGreat.Flo

/-
 Plain: costs of flows; potentials that prove a cost; further units cost no less.
-/
set_option linter.all false
namespace Go.Proofs.YthobaaefdehoiaaGreat.Flo
open Go Go.W
def costOf : List Arc → List Int → Int
 | a :: l, x :: on => x * a.cost + costOf l on
 | _, _ => 0
def rc (p : Int → Int) (a : Arc) : Int := a.cost + p a.f - p a.t
def OptPot (p : Int → Int) (l : List Arc) (on : List Int) : Prop := ∀ i (h : i < l.length) (h2 : i < on.length), (on[i] < l[i].cap → 0 ≤ rc p l[i]) ∧ (0 < on[i] → rc p l[i] ≤ 0)
def lin (c : Arc → Int) : List Arc → List Int → Int
 | a :: l, x :: on => x * c a + lin c l on
 | _, _ => 0
theorem netOut_ends {n : Nat} {l : List Arc} {s t : Int} {on : List Int} {amt : Int} (hf : IsFlow n l s t on amt) (hn : NodesOk n l) (hs : 0 ≤ s ∧ s < n) (ht : 0 ≤ t ∧ t < n) (hst : s ≠ t) (p : Int → Int) : netOut p l on = amt * (p s - p t) := by
 have key : ∀ p : Int → Int, p t = 0 → netOut p l on = amt * p s := by
  intro p hp
  rw [netOut_sum n p l on hn, sumTo_single _ s n hs.1 hs.2 fun u h0 h1 h2 => ?_, hf.amt, Int.mul_comm]
  by_cases hu : u = t
  ·subst hu; rw [hp]; simp
  ·rw [hf.cons u h0 h1 h2 hu]; simp
 have hconst : ∀ (c : Int) (l : List Arc) (on : List Int), netOut (fun u => p u - c) l on = netOut p l on := by
  intro c l
  induction l with
  | nil => intro on; simp [netOut]
  | cons a l ih =>
   intro on
   cases on with
   | nil => simp [netOut]
   | cons x on => simp only [netOut]; rw [ih, show p a.f - c - (p a.t - c) = p a.f - p a.t by omega]
 rw [← hconst (p t), key _ (by omega)]
end Go.Proofs.YthobaaefdehoiaaGreat.Flo
