/-
 Plain: the search for the nearest nodes by reduced costs.
-/
import Derived.Test.YthobaaefdehoiaaGreatFM2
set_option linter.all false
namespace Go.Proofs.YthobaaefdehoiaaGreat.Flo
open Go Go.W
def dAt (d : List Int) (v : Nat) : Int := d.getD v 0
def dnB (d : List Bool) (v : Nat) : Bool := d.getD v false
def REdge (p : Int → Int) (l : List Arc) (on : List Int) (i : Nat) (fw : Bool) (u v : Nat) (r w : Int) : Prop := ∃ (h : i < l.length) (h2 : i < on.length),
 (fw = true → l[i].f = u ∧ l[i].t = v ∧ r = l[i].cap - on[i] ∧ on[i] < l[i].cap ∧ w = rc p l[i]) ∧ (fw = false → l[i].t = u ∧ l[i].f = v ∧ r = on[i] ∧ 0 < on[i] ∧ w = -rc p l[i])
theorem REdge.same {p : Int → Int} {l : List Arc} {on : List Int} {i : Nat} {fw : Bool} {u v u' v' : Nat} {r w r' w' : Int} (h : REdge p l on i fw u v r w) (h' : REdge p l on i fw u' v' r' w') : u = u' ∧ v = v' ∧ w = w' := by
 obtain ⟨_, _, a, b⟩ := h
 obtain ⟨_, _, a', b'⟩ := h'
 cases fw with
 | true => have := a rfl; have := a' rfl; omega
 | false => have := b rfl; have := b' rfl; omega
theorem REdge.nonneg {p : Int → Int} {l : List Arc} {on : List Int} (ho : OptPot p l on) {i : Nat} {fw : Bool} {u v : Nat} {r w : Int} (h : REdge p l on i fw u v r w) : 0 ≤ w := by
 obtain ⟨h1, h2, a, b⟩ := h
 have := ho i h1 h2
 cases fw with
 | true => have q := a rfl; have := this.1 q.2.2.2.1; omega
 | false => have q := b rfl; have := this.2 q.2.2.2.1; omega
theorem REdge.edge {p : Int → Int} {l : List Arc} {on : List Int} {i : Nat} {fw : Bool} {u v : Nat} {r w : Int} (h : REdge p l on i fw u v r w) {d : Int} {k : Bool} : Edge l on ⟨u, i, r, fw, k, d⟩ u v := by
 obtain ⟨h1, h2, a, b⟩ := h
 exact ⟨rfl, i, rfl, h1, h2, fun hf => ⟨(a hf).1, (a hf).2.1, (a hf).2.2.1, (a hf).2.2.2.1⟩, fun hf => ⟨(b hf).1, (b hf).2.1, (b hf).2.2.1, (b hf).2.2.2.1⟩⟩
theorem openN_le : ∀ l : List Bool, openN l ≤ l.length := fun l => by unfold openN; exact List.length_filter_le _ _
structure DI (p : Int → Int) (l : List Arc) (on : List Int) (n s x : Nat) (Pr : Nat → Bool → Prop) (st : NSt) (done : List Bool) (rk : Nat → Int) (D : Int) : Prop where
 slen : st.sts.length = n
 dlen : st.dist.length = n
 olen : done.length = n
 src : kn st.sts s = true ∧ dAt st.dist s = 0
 nn : ∀ v, v < n → kn st.sts v = true → 0 ≤ dAt st.dist v
 par : ∀ v, v < n → kn st.sts v = true → v ≠ s → ∃ u i fw r w, u < n ∧ dnB done u = true ∧ REdge p l on i fw u v r w ∧ st.sts.getD v default = ⟨u, i, r, fw, true, 0⟩ ∧ dAt st.dist v = dAt st.dist u + w ∧ (dnB done v = true → rk u < rk v)
 dn : ∀ v, v < n → dnB done v = true → kn st.sts v = true ∧ 0 ≤ rk v ∧ rk v < (n : Int) - openN done
 bd : ∀ v, v < n → dnB done v = true → dAt st.dist v + p v ≤ 65536 * rk v
 bd2 : ∀ v, v < n → kn st.sts v = true → dnB done v = false → dAt st.dist v + p v ≤ 65536 * ((n : Int) - openN done)
 ent : ∀ y ∈ st.h, ∃ v : Nat, v < n ∧ y.node = v ∧ kn st.sts v = true ∧ dAt st.dist v ≤ y.dist
 live : ∀ v, v < n → kn st.sts v = true → dnB done v = false → ∃ y ∈ st.h, y.node = v ∧ y.dist = dAt st.dist v
 low : ∀ v, v < n → dnB done v = true → dAt st.dist v ≤ D
 low2 : ∀ y ∈ st.h, D ≤ y.dist
 clo : ∀ i fw u v r w, REdge p l on i fw u v r w → v < n → dnB done u = true → (u ≠ x ∨ Pr i fw) → kn st.sts v = true ∧ dAt st.dist v ≤ dAt st.dist u + w
section
variable {p : Int → Int} {l : List Arc} {on : List Int} {n s x : Nat} {Pr : Nat → Bool → Prop} {st : NSt} {done : List Bool} {rk : Nat → Int} {D : Int}
theorem DI.pr (h : DI p l on n s x Pr st done rk D) {Pr' : Nat → Bool → Prop} (hp : ∀ i fw u v r w, REdge p l on i fw u v r w → Pr' i fw → Pr i fw) : DI p l on n s x Pr' st done rk D :=
 { h with clo := fun i fw u v r w hE hv hd hx => h.clo i fw u v r w hE hv hd (hx.imp id (hp i fw u v r w hE)) }
theorem dAt_set {d : List Int} {b v : Nat} {y : Int} (hb : b < d.length) : dAt (d.set b y) v = if b = v then y else dAt d v := by
 unfold dAt
 by_cases h : b = v
 ·subst h; simp [hb]
 ·simp [h, List.getElem?_set]
theorem dnB_set {d : List Bool} {b v : Nat} {y : Bool} (hb : b < d.length) : dnB (d.set b y) v = if b = v then y else dnB d v := by
 unfold dnB
 by_cases h : b = v
 ·subst h; simp [hb]
 ·simp [h, List.getElem?_set]
theorem kn_set {sts : List Step} {b v : Nat} {y : Step} (hb : b < sts.length) : kn (sts.set b y) v = if b = v then y.known else kn sts v := by
 unfold kn
 rw [getD_set hb]; split <;> rfl
theorem DI.init (hs : s < n) (hp : p s ≤ 0) {A : Option Addr} {cap : Nat} {Lo : List Blk} {q : Int} : DI p l on n s x Pr ⟨reachInit n s, List.replicate n 0, [⟨s, 0, 0⟩], q, A, cap, Lo⟩ (List.replicate n false) (fun _ => 0) 0 := by
 have hk : ∀ v, v < n → (kn (reachInit n s) v = true → v = s) := fun v hv hk => by
  unfold reachInit at hk
  rw [kn_set (by simpa using hs)] at hk
  by_cases h : s = v
  ·exact h.symm
  ·rw [if_neg h] at hk; simp [kn, hv] at hk
 have hks : kn (reachInit n s) s = true := by
  unfold reachInit
  rw [kn_set (by simpa using hs), if_pos rfl]
 have hd : ∀ v, v < n → dAt (List.replicate n 0) v = 0 := fun v hv => by simp [dAt, hv]
 have hn : ∀ v, v < n → dnB (List.replicate n false) v = false := fun v hv => by simp [dnB, hv]
 have ho : openN (List.replicate n false) = n := by simp [openN]
 refine ⟨by simp [reachInit], by simp, by simp, ⟨hks, hd s hs⟩, fun v hv _ => by rw [hd v hv]; omega, fun v hv h1 h2 => absurd (hk v hv h1) h2, fun v hv h1 => (by rw [hn v hv] at h1; cases h1), fun v hv h1 => (by rw [hn v hv] at h1; cases h1),
  fun v hv h1 _ => ?_, fun y hy => ?_, fun v hv h1 _ => ?_, fun v hv h1 => (by rw [hn v hv] at h1; cases h1), fun y hy => ?_, fun i fw u v r w hE hv h1 _ => ?_⟩
 ·have := hk v hv h1; subst this
  rw [ho]
  have := hd v hv
  simp only [this]; omega
 ·simp only [List.mem_cons, List.not_mem_nil, or_false] at hy
  subst hy
  exact ⟨s, hs, rfl, hks, by simp only [hd s hs]; omega⟩
 ·have := hk v hv h1; subst this
  exact ⟨_, List.mem_cons_self .., rfl, (hd v hv).symm⟩
 ·simp only [List.mem_cons, List.not_mem_nil, or_false] at hy
  subst hy; exact Int.le_refl _
 ·by_cases hu : u < n
  ·rw [hn u hu] at h1; cases h1
  ·simp [dnB, hu] at h1
theorem DI.stale (h : DI p l on n s x Pr st done rk D) {y : Ent} {h' : List Ent} (hp : (y :: h').Perm st.h) {v : Nat} (hy : y.node = v) (hv : dnB done v = true) {A : Option Addr} {cap : Nat} {Lo : List Blk} {q : Int} : DI p l on n s x Pr ⟨st.sts, st.dist, h', q, A, cap, Lo⟩ done rk D :=
 { h with
  ent := fun z hz => h.ent z (hp.subset (List.mem_cons_of_mem _ hz))
  live := fun u hu h1 h2 => by
   obtain ⟨z, hz, h3, h4⟩ := h.live u hu h1 h2
   rcases List.mem_cons.1 (hp.symm.subset hz) with rfl | hz
   ·have : u = v := by omega
    subst this; rw [hv] at h2; cases h2
   ·exact ⟨z, hz, h3, h4⟩
  low2 := fun z hz => h.low2 z (hp.subset (List.mem_cons_of_mem _ hz)) }
theorem DI.fresh (h : DI p l on n s x (fun _ _ => True) st done rk D) {y : Ent} {h' : List Ent} (hp : (y :: h').Perm st.h) (hmin : ∀ z ∈ st.h, y.dist ≤ z.dist) {v : Nat} (hy : y.node = v) (hvn : v < n) (hv : dnB done v = false) {A : Option Addr} {cap : Nat} {Lo : List Blk} {q : Int} :
  y.dist = dAt st.dist v ∧ DI p l on n s v (fun _ _ => False) ⟨st.sts, st.dist, h', q, A, cap, Lo⟩ (done.set v true) (fun u => if u = v then (n : Int) - openN done else rk u) y.dist := by
 have hmem : y ∈ st.h := hp.subset (List.mem_cons_self ..)
 obtain ⟨v', hv', e1, hk, hle⟩ := h.ent y hmem
 have e2 : v' = v := by omega
 subst e2
 obtain ⟨z, hz, z1, z2⟩ := h.live v' hvn hk hv
 have hyd : y.dist = dAt st.dist v' := by have := hmin z hz; omega
 have hvl : v' < done.length := by rw [h.olen]; exact hvn
 have hopen := openN_set done v' hvl hv
 have hdn : ∀ u, dnB (done.set v' true) u = true → u ≠ v' → dnB done u = true := fun u hu hne => by rw [dnB_set hvl, if_neg (Ne.symm hne)] at hu; exact hu
 have hdn2 : ∀ u, dnB done u = true → dnB (done.set v' true) u = true ∧ u ≠ v' := fun u hu => by
  rw [dnB_set hvl]
  refine ⟨by split; rfl; exact hu, fun he => ?_⟩
  subst he; rw [hv] at hu; cases hu
 have hdn3 : ∀ u, dnB (done.set v' true) u = false → dnB done u = false ∧ u ≠ v' := fun u hu => by
  rw [dnB_set hvl] at hu
  split at hu
  ·cases hu
  ·rename_i hne; exact ⟨hu, Ne.symm hne⟩
 refine ⟨hyd, ⟨h.slen, h.dlen, by simp [h.olen], h.src, h.nn, fun u hu h1 h2 => ?_, fun u hu h1 => ?_, fun u hu h1 => ?_, fun u hu h1 h2 => ?_, fun z hz => h.ent z (hp.subset (List.mem_cons_of_mem _ hz)), fun u hu h1 h2 => ?_, fun u hu h1 => ?_, fun z hz => hmin z (hp.subset (List.mem_cons_of_mem _ hz)), fun i fw a b r w hE hb h1 h2 => ?_⟩⟩
 ·obtain ⟨a, i, fw, r, w, ha, hda, hE, hs, hd, hr⟩ := h.par u hu h1 h2
  obtain ⟨q1, q2⟩ := hdn2 a hda
  refine ⟨a, i, fw, r, w, ha, q1, hE, hs, hd, fun hdu => ?_⟩
  simp only [if_neg q2]
  by_cases he : u = v'
  ·rw [if_pos he]; exact (h.dn a ha hda).2.2
  ·rw [if_neg he]; exact hr (hdn u hdu he)
 ·by_cases he : u = v'
  ·subst he; simp only [if_true]
   have := openN_le done; rw [h.olen] at this
   exact ⟨hk, by omega, by omega⟩
  ·simp only [if_neg he]
   obtain ⟨q1, q2, q3⟩ := h.dn u hu (hdn u h1 he)
   exact ⟨q1, q2, by omega⟩
 ·by_cases he : u = v'
  ·subst he; simp only [if_true]; exact h.bd2 u hu hk hv
  ·simp only [if_neg he]; exact h.bd u hu (hdn u h1 he)
 ·have := h.bd2 u hu h1 (hdn3 u h2).1
  simp only at this ⊢; omega
 ·obtain ⟨q1, q2⟩ := hdn3 u h2
  obtain ⟨z, hz, z1, z2⟩ := h.live u hu h1 q1
  rcases List.mem_cons.1 (hp.symm.subset hz) with rfl | hz
  ·exact absurd (by omega) q2
  ·exact ⟨z, hz, z1, z2⟩
 ·by_cases he : u = v'
  ·subst he; exact Int.le_of_eq hyd.symm
  ·exact Int.le_trans (h.low u hu (hdn u h1 he)) (h.low2 y hmem)
 ·rcases h2 with h2 | h2
  ·exact h.clo i fw a b r w hE hb (hdn a h1 h2) (.inr trivial)
  ·exact h2.elim
theorem DI.visit (h : DI p l on n s x Pr st done rk D) (ho : OptPot p l on) {i : Nat} {fw : Bool} {a b : Nat} {r w cost : Int} {pots : List Int} (hE : REdge p l on i fw a b r w) (hx : x < n) (hdx : dnB done x = true) (hD : D = dAt st.dist x) (hb : b < n)
  (hw : w = cost + pots.getD a 0 - pots.getD b 0) (hpa : pots.getD a 0 = p a) (hpb : pots.getD b 0 = p b) (hc : cost ≤ 65536) {st' : NSt} (hV : NVis x (dAt st.dist x) pots done a b i r cost fw st st') :
  DI p l on n s x (fun j f => Pr j f ∨ (j = i ∧ f = fw)) st' done rk D := by
 have hw0 := hE.nonneg ho
 have hxd := h.dn x hx hdx
 have hnx := h.nn x hx hxd.1
 unfold NVis at hV
 by_cases hcc : nVisC x (dAt st.dist x) pots done st a b cost = true
 ·rw [if_pos hcc] at hV
  obtain ⟨e1, e2, e3, _⟩ := hV
  unfold nVisC at hcc
  simp only [Bool.and_eq_true, Bool.or_eq_true, Bool.not_eq_true', decide_eq_true_eq] at hcc
  obtain ⟨⟨hax, hdb⟩, hor⟩ := hcc
  subst hax
  generalize hd : dAt st.dist a + cost + pots.getD a 0 - pots.getD b 0 = d at *
  have hdw : d = dAt st.dist a + w := by omega
  have hor : kn st.sts b = false ∨ d < dAt st.dist b := hor
  have hdb : dnB done b = false := hdb
  have hba : b ≠ a := fun he => by rw [he, hdx] at hdb; cases hdb
  have hbs : b ≠ s := fun he => by
   subst he
   rcases hor with q | q
   ·rw [h.src.1] at q; cases q
   ·rw [h.src.2] at q; omega
  have hbl : b < st.sts.length := by rw [h.slen]; exact hb
  have hbl2 : b < st.dist.length := by rw [h.dlen]; exact hb
  have k1 : ∀ v, v ≠ b → kn st'.sts v = kn st.sts v := fun v hv => by rw [e1, kn_set hbl, if_neg (Ne.symm hv)]
  have k2 : kn st'.sts b = true := by rw [e1, kn_set hbl, if_pos rfl]
  have d1 : ∀ v, v ≠ b → dAt st'.dist v = dAt st.dist v := fun v hv => by rw [e2, dAt_set hbl2, if_neg (Ne.symm hv)]
  have d2 : dAt st'.dist b = d := by rw [e2, dAt_set hbl2, if_pos rfl]
  have s1 : ∀ v, v ≠ b → st'.sts.getD v default = st.sts.getD v default := fun v hv => by rw [e1, getD_set hbl, if_neg (Ne.symm hv)]
  have s2 : st'.sts.getD b default = ⟨a, i, r, fw, true, 0⟩ := by rw [e1, getD_set hbl, if_pos rfl]
  have hnb : ∀ u, dnB done u = true → u ≠ b := fun u hu he => by rw [he, hdb] at hu; cases hu
  refine ⟨by rw [e1]; simp [h.slen], by rw [e2]; simp [h.dlen], h.olen, ⟨by rw [k1 s (Ne.symm hbs)]; exact h.src.1, by rw [d1 s (Ne.symm hbs)]; exact h.src.2⟩, fun v hv hk => ?_, fun v hv hk hvs => ?_, fun v hv hdv => ?_, fun v hv hdv => ?_, fun v hv hk hdv => ?_, fun y hy => ?_, fun v hv hk hdv => ?_, fun v hv hdv => ?_, fun y hy => ?_, fun j f u v r' w' hE' hv hdu hor' => ?_⟩
  ·by_cases hvb : v = b
   ·subst hvb; rw [d2]; omega
   ·rw [d1 v hvb]; exact h.nn v hv (by rw [← k1 v hvb]; exact hk)
  ·by_cases hvb : v = b
   ·subst hvb
    exact ⟨a, i, fw, r, w, hx, hdx, hE, s2, by rw [d2, d1 a (Ne.symm hba)]; exact hdw, fun q => by rw [hdb] at q; cases q⟩
   ·obtain ⟨u, j, f, r', w', q1, q2, q3, q4, q5, q6⟩ := h.par v hv (by rw [← k1 v hvb]; exact hk) hvs
    exact ⟨u, j, f, r', w', q1, q2, q3, by rw [s1 v hvb]; exact q4, by rw [d1 v hvb, d1 u (hnb u q2)]; exact q5, q6⟩
  ·obtain ⟨q1, q2, q3⟩ := h.dn v hv hdv
   exact ⟨by rw [k1 v (hnb v hdv)]; exact q1, q2, q3⟩
  ·rw [d1 v (hnb v hdv)]; exact h.bd v hv hdv
  ·by_cases hvb : v = b
   ·subst hvb
    have := h.bd a hx hdx
    rw [d2]; omega
   ·rw [d1 v hvb]; exact h.bd2 v hv (by rw [← k1 v hvb]; exact hk) hdv
  ·rcases List.mem_append.1 (e3.subset hy) with hy | hy
   ·obtain ⟨v, q1, q2, q3, q4⟩ := h.ent y hy
    by_cases hvb : v = b
    ·subst hvb
     refine ⟨v, q1, q2, k2, ?_⟩
     rcases hor with q | q
     ·rw [q3] at q; cases q
     ·rw [d2]; omega
    ·exact ⟨v, q1, q2, by rw [k1 v hvb]; exact q3, by rw [d1 v hvb]; exact q4⟩
   ·simp only [List.mem_cons, List.not_mem_nil, or_false] at hy
    subst hy
    exact ⟨b, hb, rfl, k2, by rw [d2]; exact Int.le_refl _⟩
  ·by_cases hvb : v = b
   ·subst hvb
    exact ⟨_, e3.symm.subset (List.mem_append_right _ (List.mem_cons_self ..)), rfl, d2.symm⟩
   ·obtain ⟨y, hy, q1, q2⟩ := h.live v hv (by rw [← k1 v hvb]; exact hk) hdv
    exact ⟨y, e3.symm.subset (List.mem_append_left _ hy), q1, by rw [d1 v hvb]; exact q2⟩
  ·rw [d1 v (hnb v hdv)]; exact h.low v hv hdv
  ·rcases List.mem_append.1 (e3.subset hy) with hy | hy
   ·exact h.low2 y hy
   ·simp only [List.mem_cons, List.not_mem_nil, or_false] at hy
    subst hy
    show D ≤ d
    omega
  ·rw [d1 u (hnb u hdu)]
   by_cases hnew : j = i ∧ f = fw
   ·obtain ⟨rfl, rfl⟩ := hnew
    obtain ⟨g1, g2, g3⟩ := hE'.same hE
    subst g1 g2 g3
    exact ⟨k2, by rw [d2]; omega⟩
   ·have hor2 : u ≠ a ∨ Pr j f := by rcases hor' with q | q | q; exact .inl q; exact .inr q; exact absurd q hnew
    obtain ⟨q1, q2⟩ := h.clo j f u v r' w' hE' hv hdu hor2
    by_cases hvb : v = b
    ·subst hvb
     refine ⟨k2, ?_⟩
     rcases hor with q | q
     ·rw [q1] at q; cases q
     ·rw [d2]; omega
    ·exact ⟨by rw [k1 v hvb]; exact q1, by rw [d1 v hvb]; exact q2⟩
 ·rw [if_neg hcc] at hV
  obtain ⟨e1, e2, e3, _⟩ := hV
  have hclo : ∀ j f u v r' w', REdge p l on j f u v r' w' → v < n → dnB done u = true → (u ≠ x ∨ (Pr j f ∨ (j = i ∧ f = fw))) → kn st.sts v = true ∧ dAt st.dist v ≤ dAt st.dist u + w' := fun j f u v r' w' hE' hv hdu hor' => by
   by_cases hnew : j = i ∧ f = fw
   ·obtain ⟨rfl, rfl⟩ := hnew
    obtain ⟨g1, g2, g3⟩ := hE'.same hE
    subst g1 g2 g3
    by_cases hux : u = x
    ·subst hux
     cases hdv : dnB done v with
     | true =>
      have := h.low v hv hdv
      exact ⟨(h.dn v hv hdv).1, by omega⟩
     | false =>
      have hdv' : done.getD v false = false := hdv
      unfold nVisC at hcc
      simp only [decide_true, hdv', Bool.not_false, Bool.and_self, Bool.true_and, Bool.or_eq_true, Bool.not_eq_true', decide_eq_true_eq, not_or, Bool.not_eq_false] at hcc
      obtain ⟨c1, c2⟩ := hcc
      refine ⟨c1, ?_⟩
      have c2 : ¬ dAt st.dist u + cost + pots.getD u 0 - pots.getD v 0 < dAt st.dist v := c2
      omega
    ·exact h.clo j f u v r' w' hE' hv hdu (.inl hux)
   ·exact h.clo j f u v r' w' hE' hv hdu (by rcases hor' with q | q | q; exact .inl q; exact .inr q; exact absurd q hnew)
  have hres : DI p l on n s x (fun j f => Pr j f ∨ (j = i ∧ f = fw)) st done rk D := { h with clo := hclo }
  obtain ⟨a1, a2, a3, a4, a5, a6, a7, a8, a9, a10, a11, a12, a13, a14⟩ := hres
  exact ⟨by rw [e1]; exact a1, by rw [e2]; exact a2, a3, by rw [e1, e2]; exact a4, by rw [e1, e2]; exact a5, by rw [e1, e2]; exact a6, by rw [e1]; exact a7, by rw [e2]; exact a8, by rw [e1, e2]; exact a9, by rw [e1, e2, e3]; exact a10, by rw [e1, e2, e3]; exact a11, by rw [e2]; exact a12, by rw [e3]; exact a13, by rw [e1, e2]; exact a14⟩
structure Near (p : Int → Int) (l : List Arc) (on : List Int) (n s : Nat) (sts : List Step) (dist : List Int) (rk : Nat → Int) : Prop where
 slen : sts.length = n
 dlen : dist.length = n
 src : kn sts s = true ∧ dAt dist s = 0
 nn : ∀ v, v < n → kn sts v = true → 0 ≤ dAt dist v
 bd : ∀ v, v < n → kn sts v = true → dAt dist v + p v ≤ 65536 * n
 rkb : ∀ v, v < n → kn sts v = true → 0 ≤ rk v ∧ rk v ≤ n
 par : ∀ v, v < n → kn sts v = true → v ≠ s → ∃ u i fw r w, u < n ∧ kn sts u = true ∧ REdge p l on i fw u v r w ∧ sts.getD v default = ⟨u, i, r, fw, true, 0⟩ ∧ dAt dist v = dAt dist u + w ∧ rk u < rk v
 clo : ∀ i fw u v r w, REdge p l on i fw u v r w → u < n → v < n → kn sts u = true → kn sts v = true ∧ dAt dist v ≤ dAt dist u + w
theorem DI.near (h : DI p l on n s x (fun _ _ => True) st done rk D) (he : st.h = []) : Near p l on n s st.sts st.dist rk := by
 have hall : ∀ v, v < n → kn st.sts v = true → dnB done v = true := fun v hv hk => by
  cases hd : dnB done v with
  | true => rfl
  | false =>
   obtain ⟨y, hy, _⟩ := h.live v hv hk hd
   rw [he] at hy; cases hy
 have hop : (0 : Int) ≤ openN done := by omega
 refine ⟨h.slen, h.dlen, h.src, h.nn, fun v hv hk => ?_, fun v hv hk => ?_, fun v hv hk hvs => ?_, fun i fw u v r w hE hu hv hk => h.clo i fw u v r w hE hv (hall u hu hk) (.inr trivial)⟩
 ·have h1 := h.bd v hv (hall v hv hk)
  have h2 := (h.dn v hv (hall v hv hk)).2.2
  omega
 ·have h2 := h.dn v hv (hall v hv hk)
  omega
 ·obtain ⟨u, i, fw, r, w, q1, q2, q3, q4, q5, q6⟩ := h.par v hv hk hvs
  exact ⟨u, i, fw, r, w, q1, (h.dn u q1 q2).1, q3, q4, q5, q6 (hall v hv hk)⟩
theorem Near.tree (h : Near p l on n s st.sts st.dist rk) : Tree rk l on n s st.sts := ⟨h.rkb, fun v hv hk hvs => by
 obtain ⟨u, i, fw, r, w, q1, q2, q3, q4, _, q6⟩ := h.par v hv hk hvs
 exact ⟨u, q1, q2, q6, by rw [q4]; exact q3.edge⟩⟩
end
end Go.Proofs.YthobaaefdehoiaaGreat.Flo
