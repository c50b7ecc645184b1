/-
 Plain: the search for the nearest nodes by reduced costs.
-/
import Derived.Test.YtgcokllbophkkaaGreatFM2
import Derived.Test.YtgcokllbophkkaaGreatNest
set_option linter.all false
set_option maxHeartbeats 4000000
namespace Go.Proofs.YtgcokllbophkkaaGreat.Flo
open Go Go.W
def dAt (d : List Int) (v : Nat) : Int := d.getD v 0
def dnB (d : List Bool) (v : Nat) : Bool := d.getD v false
def REdge (p : Int → Int) (l : List Arc) (on : List Int) (i : Nat) (fw : Bool) (u v : Nat) (r w : Int) : Prop := ∃ (h : i < l.length) (h2 : i < on.length),
 (fw = true → l[i].f = u ∧ l[i].t = v ∧ r = l[i].cap - on[i] ∧ on[i] < l[i].cap ∧ w = rc p l[i]) ∧ (fw = false → l[i].t = u ∧ l[i].f = v ∧ r = on[i] ∧ 0 < on[i] ∧ w = -rc p l[i])
theorem REdge.same {p : Int → Int} {l : List Arc} {on : List Int} {i : Nat} {fw : Bool} {u v u' v' : Nat} {r w r' w' : Int} (h : REdge p l on i fw u v r w) (h' : REdge p l on i fw u' v' r' w') : u = u' ∧ v = v' ∧ w = w' := by
 obtain ⟨_, _, a, b⟩ := h
 obtain ⟨_, _, a', b'⟩ := h'
 cases fw with
 | true => have := a rfl; have := a' rfl; omega
 | false => have := b rfl; have := b' rfl; omega
theorem REdge.nonneg {p : Int → Int} {l : List Arc} {on : List Int} (ho : OptPot p l on) {i : Nat} {fw : Bool} {u v : Nat} {r w : Int} (h : REdge p l on i fw u v r w) : 0 ≤ w := by
 obtain ⟨h1, h2, a, b⟩ := h
 have := ho i h1 h2
 cases fw with
 | true => have q := a rfl; have := this.1 q.2.2.2.1; omega
 | false => have q := b rfl; have := this.2 q.2.2.2.1; omega
theorem REdge.edge {p : Int → Int} {l : List Arc} {on : List Int} {i : Nat} {fw : Bool} {u v : Nat} {r w : Int} (h : REdge p l on i fw u v r w) {d : Int} {k : Bool} : Edge l on ⟨u, i, r, fw, k, d⟩ u v := by
 obtain ⟨h1, h2, a, b⟩ := h
 exact ⟨rfl, i, rfl, h1, h2, fun hf => ⟨(a hf).1, (a hf).2.1, (a hf).2.2.1, (a hf).2.2.2.1⟩, fun hf => ⟨(b hf).1, (b hf).2.1, (b hf).2.2.1, (b hf).2.2.2.1⟩⟩
theorem openN_le : ∀ l : List Bool, openN l ≤ l.length := fun l => by unfold openN; exact List.length_filter_le _ _
structure DI (p : Int → Int) (l : List Arc) (on : List Int) (n s x : Nat) (Pr : Nat → Bool → Prop) (st : NSt) (done : List Bool) (rk : Nat → Int) (D : Int) : Prop where
 slen : st.sts.length = n
 dlen : st.dist.length = n
 olen : done.length = n
 src : kn st.sts s = true ∧ dAt st.dist s = 0
 nn : ∀ v, v < n → kn st.sts v = true → 0 ≤ dAt st.dist v
 par : ∀ v, v < n → kn st.sts v = true → v ≠ s → ∃ u i fw r w, u < n ∧ dnB done u = true ∧ REdge p l on i fw u v r w ∧ st.sts.getD v default = ⟨u, i, r, fw, true, 0⟩ ∧ dAt st.dist v = dAt st.dist u + w ∧ (dnB done v = true → rk u < rk v)
 dn : ∀ v, v < n → dnB done v = true → kn st.sts v = true ∧ 0 ≤ rk v ∧ rk v < (n : Int) - openN done
 bd : ∀ v, v < n → dnB done v = true → dAt st.dist v + p v ≤ 65536 * rk v
 bd2 : ∀ v, v < n → kn st.sts v = true → dnB done v = false → dAt st.dist v + p v ≤ 65536 * ((n : Int) - openN done)
 ent : ∀ y ∈ st.h, ∃ v : Nat, v < n ∧ y.node = v ∧ kn st.sts v = true ∧ dAt st.dist v ≤ y.dist
 live : ∀ v, v < n → kn st.sts v = true → dnB done v = false → ∃ y ∈ st.h, y.node = v ∧ y.dist = dAt st.dist v
 low : ∀ v, v < n → dnB done v = true → dAt st.dist v ≤ D
 low2 : ∀ y ∈ st.h, D ≤ y.dist
 clo : ∀ i fw u v r w, REdge p l on i fw u v r w → v < n → dnB done u = true → (u ≠ x ∨ Pr i fw) → kn st.sts v = true ∧ dAt st.dist v ≤ dAt st.dist u + w
section
variable {p : Int → Int} {l : List Arc} {on : List Int} {n s x : Nat} {Pr : Nat → Bool → Prop} {st : NSt} {done : List Bool} {rk : Nat → Int} {D : Int}
theorem DI.pr (h : DI p l on n s x Pr st done rk D) {Pr' : Nat → Bool → Prop} (hp : ∀ i fw u v r w, REdge p l on i fw u v r w → Pr' i fw → Pr i fw) : DI p l on n s x Pr' st done rk D :=
 { h with clo := fun i fw u v r w hE hv hd hx => h.clo i fw u v r w hE hv hd (hx.imp id (hp i fw u v r w hE)) }
theorem dAt_set {d : List Int} {b v : Nat} {y : Int} (hb : b < d.length) : dAt (d.set b y) v = if b = v then y else dAt d v := by
 unfold dAt
 by_cases h : b = v
 ·subst h; simp [hb]
 ·simp [h, List.getElem?_set]
theorem dnB_set {d : List Bool} {b v : Nat} {y : Bool} (hb : b < d.length) : dnB (d.set b y) v = if b = v then y else dnB d v := by
 unfold dnB
 by_cases h : b = v
 ·subst h; simp [hb]
 ·simp [h, List.getElem?_set]
theorem kn_set {sts : List Step} {b v : Nat} {y : Step} (hb : b < sts.length) : kn (sts.set b y) v = if b = v then y.known else kn sts v := by
 unfold kn
 rw [getD_set hb]; split <;> rfl
theorem DI.init (hs : s < n) (hp : p s ≤ 0) {A : Option Addr} {cap : Nat} {Lo : List Blk} {q : Int} : DI p l on n s x Pr ⟨reachInit n s, List.replicate n 0, [⟨s, 0, 0⟩], q, A, cap, Lo⟩ (List.replicate n false) (fun _ => 0) 0 := by
 have hk : ∀ v, v < n → (kn (reachInit n s) v = true → v = s) := fun v hv hk => by
  unfold reachInit at hk
  rw [kn_set (by simpa using hs)] at hk
  by_cases h : s = v
  ·exact h.symm
  ·rw [if_neg h] at hk; simp [kn, hv] at hk
 have hks : kn (reachInit n s) s = true := by
  unfold reachInit
  rw [kn_set (by simpa using hs), if_pos rfl]
 have hd : ∀ v, v < n → dAt (List.replicate n 0) v = 0 := fun v hv => by simp [dAt, hv]
 have hn : ∀ v, v < n → dnB (List.replicate n false) v = false := fun v hv => by simp [dnB, hv]
 have ho : openN (List.replicate n false) = n := by simp [openN]
 refine ⟨by simp [reachInit], by simp, by simp, ⟨hks, hd s hs⟩, fun v hv _ => by rw [hd v hv]; omega, fun v hv h1 h2 => absurd (hk v hv h1) h2, fun v hv h1 => (by rw [hn v hv] at h1; cases h1), fun v hv h1 => (by rw [hn v hv] at h1; cases h1),
  fun v hv h1 _ => ?_, fun y hy => ?_, fun v hv h1 _ => ?_, fun v hv h1 => (by rw [hn v hv] at h1; cases h1), fun y hy => ?_, fun i fw u v r w hE hv h1 _ => ?_⟩
 ·have := hk v hv h1; subst this
  rw [ho]
  have := hd v hv
  simp only [this]; omega
 ·simp only [List.mem_cons, List.not_mem_nil, or_false] at hy
  subst hy
  exact ⟨s, hs, rfl, hks, by simp only [hd s hs]; omega⟩
 ·have := hk v hv h1; subst this
  exact ⟨_, List.mem_cons_self .., rfl, (hd v hv).symm⟩
 ·simp only [List.mem_cons, List.not_mem_nil, or_false] at hy
  subst hy; exact Int.le_refl _
 ·by_cases hu : u < n
  ·rw [hn u hu] at h1; cases h1
  ·simp [dnB, hu] at h1
theorem DI.stale (h : DI p l on n s x Pr st done rk D) {y : Ent} {h' : List Ent} (hp : (y :: h').Perm st.h) {v : Nat} (hy : y.node = v) (hv : dnB done v = true) {A : Option Addr} {cap : Nat} {Lo : List Blk} {q : Int} : DI p l on n s x Pr ⟨st.sts, st.dist, h', q, A, cap, Lo⟩ done rk D :=
 { h with
  ent := fun z hz => h.ent z (hp.subset (List.mem_cons_of_mem _ hz))
  live := fun u hu h1 h2 => by
   obtain ⟨z, hz, h3, h4⟩ := h.live u hu h1 h2
   rcases List.mem_cons.1 (hp.symm.subset hz) with rfl | hz
   ·have : u = v := by omega
    subst this; rw [hv] at h2; cases h2
   ·exact ⟨z, hz, h3, h4⟩
  low2 := fun z hz => h.low2 z (hp.subset (List.mem_cons_of_mem _ hz)) }
theorem DI.fresh (h : DI p l on n s x (fun _ _ => True) st done rk D) {y : Ent} {h' : List Ent} (hp : (y :: h').Perm st.h) (hmin : ∀ z ∈ st.h, y.dist ≤ z.dist) {v : Nat} (hy : y.node = v) (hvn : v < n) (hv : dnB done v = false) {A : Option Addr} {cap : Nat} {Lo : List Blk} {q : Int} :
  y.dist = dAt st.dist v ∧ DI p l on n s v (fun _ _ => False) ⟨st.sts, st.dist, h', q, A, cap, Lo⟩ (done.set v true) (fun u => if u = v then (n : Int) - openN done else rk u) y.dist := by
 have hmem : y ∈ st.h := hp.subset (List.mem_cons_self ..)
 obtain ⟨v', hv', e1, hk, hle⟩ := h.ent y hmem
 have e2 : v' = v := by omega
 subst e2
 obtain ⟨z, hz, z1, z2⟩ := h.live v' hvn hk hv
 have hyd : y.dist = dAt st.dist v' := by have := hmin z hz; omega
 have hvl : v' < done.length := by rw [h.olen]; exact hvn
 have hopen := openN_set done v' hvl hv
 have hdn : ∀ u, dnB (done.set v' true) u = true → u ≠ v' → dnB done u = true := fun u hu hne => by rw [dnB_set hvl, if_neg (Ne.symm hne)] at hu; exact hu
 have hdn2 : ∀ u, dnB done u = true → dnB (done.set v' true) u = true ∧ u ≠ v' := fun u hu => by
  rw [dnB_set hvl]
  refine ⟨by split; rfl; exact hu, fun he => ?_⟩
  subst he; rw [hv] at hu; cases hu
 have hdn3 : ∀ u, dnB (done.set v' true) u = false → dnB done u = false ∧ u ≠ v' := fun u hu => by
  rw [dnB_set hvl] at hu
  split at hu
  ·cases hu
  ·rename_i hne; exact ⟨hu, Ne.symm hne⟩
 refine ⟨hyd, ⟨h.slen, h.dlen, by simp [h.olen], h.src, h.nn, fun u hu h1 h2 => ?_, fun u hu h1 => ?_, fun u hu h1 => ?_, fun u hu h1 h2 => ?_, fun z hz => h.ent z (hp.subset (List.mem_cons_of_mem _ hz)), fun u hu h1 h2 => ?_, fun u hu h1 => ?_, fun z hz => hmin z (hp.subset (List.mem_cons_of_mem _ hz)), fun i fw a b r w hE hb h1 h2 => ?_⟩⟩
 ·obtain ⟨a, i, fw, r, w, ha, hda, hE, hs, hd, hr⟩ := h.par u hu h1 h2
  obtain ⟨q1, q2⟩ := hdn2 a hda
  refine ⟨a, i, fw, r, w, ha, q1, hE, hs, hd, fun hdu => ?_⟩
  simp only [if_neg q2]
  by_cases he : u = v'
  ·rw [if_pos he]; exact (h.dn a ha hda).2.2
  ·rw [if_neg he]; exact hr (hdn u hdu he)
 ·by_cases he : u = v'
  ·subst he; simp only [if_true]
   have := openN_le done; rw [h.olen] at this
   exact ⟨hk, by omega, by omega⟩
  ·simp only [if_neg he]
   obtain ⟨q1, q2, q3⟩ := h.dn u hu (hdn u h1 he)
   exact ⟨q1, q2, by omega⟩
 ·by_cases he : u = v'
  ·subst he; simp only [if_true]; exact h.bd2 u hu hk hv
  ·simp only [if_neg he]; exact h.bd u hu (hdn u h1 he)
 ·have := h.bd2 u hu h1 (hdn3 u h2).1
  simp only at this ⊢; omega
 ·obtain ⟨q1, q2⟩ := hdn3 u h2
  obtain ⟨z, hz, z1, z2⟩ := h.live u hu h1 q1
  rcases List.mem_cons.1 (hp.symm.subset hz) with rfl | hz
  ·exact absurd (by omega) q2
  ·exact ⟨z, hz, z1, z2⟩
 ·by_cases he : u = v'
  ·subst he; exact Int.le_of_eq hyd.symm
  ·exact Int.le_trans (h.low u hu (hdn u h1 he)) (h.low2 y hmem)
 ·rcases h2 with h2 | h2
  ·exact h.clo i fw a b r w hE hb (hdn a h1 h2) (.inr trivial)
  ·exact h2.elim
theorem DI.visit (h : DI p l on n s x Pr st done rk D) (ho : OptPot p l on) {i : Nat} {fw : Bool} {a b : Nat} {r w cost : Int} {pots : List Int} (hE : REdge p l on i fw a b r w) (hx : x < n) (hdx : dnB done x = true) (hD : D = dAt st.dist x) (hb : b < n)
  (hw : w = cost + pots.getD a 0 - pots.getD b 0) (hpa : pots.getD a 0 = p a) (hpb : pots.getD b 0 = p b) (hc : cost ≤ 65536) {st' : NSt} (hV : NVis x (dAt st.dist x) pots done a b i r cost fw st st') :
  DI p l on n s x (fun j f => Pr j f ∨ (j = i ∧ f = fw)) st' done rk D := by
 have hw0 := hE.nonneg ho
 have hxd := h.dn x hx hdx
 have hnx := h.nn x hx hxd.1
 unfold NVis at hV
 by_cases hcc : nVisC x (dAt st.dist x) pots done st a b cost = true
 ·rw [if_pos hcc] at hV
  obtain ⟨e1, e2, e3, _⟩ := hV
  unfold nVisC at hcc
  simp only [Bool.and_eq_true, Bool.or_eq_true, Bool.not_eq_true', decide_eq_true_eq] at hcc
  obtain ⟨⟨hax, hdb⟩, hor⟩ := hcc
  subst hax
  generalize hd : dAt st.dist a + cost + pots.getD a 0 - pots.getD b 0 = d at *
  have hdw : d = dAt st.dist a + w := by omega
  have hor : kn st.sts b = false ∨ d < dAt st.dist b := hor
  have hdb : dnB done b = false := hdb
  have hba : b ≠ a := fun he => by rw [he, hdx] at hdb; cases hdb
  have hbs : b ≠ s := fun he => by
   subst he
   rcases hor with q | q
   ·rw [h.src.1] at q; cases q
   ·rw [h.src.2] at q; omega
  have hbl : b < st.sts.length := by rw [h.slen]; exact hb
  have hbl2 : b < st.dist.length := by rw [h.dlen]; exact hb
  have k1 : ∀ v, v ≠ b → kn st'.sts v = kn st.sts v := fun v hv => by rw [e1, kn_set hbl, if_neg (Ne.symm hv)]
  have k2 : kn st'.sts b = true := by rw [e1, kn_set hbl, if_pos rfl]
  have d1 : ∀ v, v ≠ b → dAt st'.dist v = dAt st.dist v := fun v hv => by rw [e2, dAt_set hbl2, if_neg (Ne.symm hv)]
  have d2 : dAt st'.dist b = d := by rw [e2, dAt_set hbl2, if_pos rfl]
  have s1 : ∀ v, v ≠ b → st'.sts.getD v default = st.sts.getD v default := fun v hv => by rw [e1, getD_set hbl, if_neg (Ne.symm hv)]
  have s2 : st'.sts.getD b default = ⟨a, i, r, fw, true, 0⟩ := by rw [e1, getD_set hbl, if_pos rfl]
  have hnb : ∀ u, dnB done u = true → u ≠ b := fun u hu he => by rw [he, hdb] at hu; cases hu
  refine ⟨by rw [e1]; simp [h.slen], by rw [e2]; simp [h.dlen], h.olen, ⟨by rw [k1 s (Ne.symm hbs)]; exact h.src.1, by rw [d1 s (Ne.symm hbs)]; exact h.src.2⟩, fun v hv hk => ?_, fun v hv hk hvs => ?_, fun v hv hdv => ?_, fun v hv hdv => ?_, fun v hv hk hdv => ?_, fun y hy => ?_, fun v hv hk hdv => ?_, fun v hv hdv => ?_, fun y hy => ?_, fun j f u v r' w' hE' hv hdu hor' => ?_⟩
  ·by_cases hvb : v = b
   ·subst hvb; rw [d2]; omega
   ·rw [d1 v hvb]; exact h.nn v hv (by rw [← k1 v hvb]; exact hk)
  ·by_cases hvb : v = b
   ·subst hvb
    exact ⟨a, i, fw, r, w, hx, hdx, hE, s2, by rw [d2, d1 a (Ne.symm hba)]; exact hdw, fun q => by rw [hdb] at q; cases q⟩
   ·obtain ⟨u, j, f, r', w', q1, q2, q3, q4, q5, q6⟩ := h.par v hv (by rw [← k1 v hvb]; exact hk) hvs
    exact ⟨u, j, f, r', w', q1, q2, q3, by rw [s1 v hvb]; exact q4, by rw [d1 v hvb, d1 u (hnb u q2)]; exact q5, q6⟩
  ·obtain ⟨q1, q2, q3⟩ := h.dn v hv hdv
   exact ⟨by rw [k1 v (hnb v hdv)]; exact q1, q2, q3⟩
  ·rw [d1 v (hnb v hdv)]; exact h.bd v hv hdv
  ·by_cases hvb : v = b
   ·subst hvb
    have := h.bd a hx hdx
    rw [d2]; omega
   ·rw [d1 v hvb]; exact h.bd2 v hv (by rw [← k1 v hvb]; exact hk) hdv
  ·rcases List.mem_append.1 (e3.subset hy) with hy | hy
   ·obtain ⟨v, q1, q2, q3, q4⟩ := h.ent y hy
    by_cases hvb : v = b
    ·subst hvb
     refine ⟨v, q1, q2, k2, ?_⟩
     rcases hor with q | q
     ·rw [q3] at q; cases q
     ·rw [d2]; omega
    ·exact ⟨v, q1, q2, by rw [k1 v hvb]; exact q3, by rw [d1 v hvb]; exact q4⟩
   ·simp only [List.mem_cons, List.not_mem_nil, or_false] at hy
    subst hy
    exact ⟨b, hb, rfl, k2, by rw [d2]; exact Int.le_refl _⟩
  ·by_cases hvb : v = b
   ·subst hvb
    exact ⟨_, e3.symm.subset (List.mem_append_right _ (List.mem_cons_self ..)), rfl, d2.symm⟩
   ·obtain ⟨y, hy, q1, q2⟩ := h.live v hv (by rw [← k1 v hvb]; exact hk) hdv
    exact ⟨y, e3.symm.subset (List.mem_append_left _ hy), q1, by rw [d1 v hvb]; exact q2⟩
  ·rw [d1 v (hnb v hdv)]; exact h.low v hv hdv
  ·rcases List.mem_append.1 (e3.subset hy) with hy | hy
   ·exact h.low2 y hy
   ·simp only [List.mem_cons, List.not_mem_nil, or_false] at hy
    subst hy
    show D ≤ d
    omega
  ·rw [d1 u (hnb u hdu)]
   by_cases hnew : j = i ∧ f = fw
   ·obtain ⟨rfl, rfl⟩ := hnew
    obtain ⟨g1, g2, g3⟩ := hE'.same hE
    subst g1 g2 g3
    exact ⟨k2, by rw [d2]; omega⟩
   ·have hor2 : u ≠ a ∨ Pr j f := by rcases hor' with q | q | q; exact .inl q; exact .inr q; exact absurd q hnew
    obtain ⟨q1, q2⟩ := h.clo j f u v r' w' hE' hv hdu hor2
    by_cases hvb : v = b
    ·subst hvb
     refine ⟨k2, ?_⟩
     rcases hor with q | q
     ·rw [q1] at q; cases q
     ·rw [d2]; omega
    ·exact ⟨by rw [k1 v hvb]; exact q1, by rw [d1 v hvb]; exact q2⟩
 ·rw [if_neg hcc] at hV
  obtain ⟨e1, e2, e3, _⟩ := hV
  have hclo : ∀ j f u v r' w', REdge p l on j f u v r' w' → v < n → dnB done u = true → (u ≠ x ∨ (Pr j f ∨ (j = i ∧ f = fw))) → kn st.sts v = true ∧ dAt st.dist v ≤ dAt st.dist u + w' := fun j f u v r' w' hE' hv hdu hor' => by
   by_cases hnew : j = i ∧ f = fw
   ·obtain ⟨rfl, rfl⟩ := hnew
    obtain ⟨g1, g2, g3⟩ := hE'.same hE
    subst g1 g2 g3
    by_cases hux : u = x
    ·subst hux
     cases hdv : dnB done v with
     | true =>
      have := h.low v hv hdv
      exact ⟨(h.dn v hv hdv).1, by omega⟩
     | false =>
      have hdv' : done.getD v false = false := hdv
      unfold nVisC at hcc
      simp only [decide_true, hdv', Bool.not_false, Bool.and_self, Bool.true_and, Bool.or_eq_true, Bool.not_eq_true', decide_eq_true_eq, not_or, Bool.not_eq_false] at hcc
      obtain ⟨c1, c2⟩ := hcc
      refine ⟨c1, ?_⟩
      have c2 : ¬ dAt st.dist u + cost + pots.getD u 0 - pots.getD v 0 < dAt st.dist v := c2
      omega
    ·exact h.clo j f u v r' w' hE' hv hdu (.inl hux)
   ·exact h.clo j f u v r' w' hE' hv hdu (by rcases hor' with q | q | q; exact .inl q; exact .inr q; exact absurd q hnew)
  have hres : DI p l on n s x (fun j f => Pr j f ∨ (j = i ∧ f = fw)) st done rk D := { h with clo := hclo }
  obtain ⟨a1, a2, a3, a4, a5, a6, a7, a8, a9, a10, a11, a12, a13, a14⟩ := hres
  exact ⟨by rw [e1]; exact a1, by rw [e2]; exact a2, a3, by rw [e1, e2]; exact a4, by rw [e1, e2]; exact a5, by rw [e1, e2]; exact a6, by rw [e1]; exact a7, by rw [e2]; exact a8, by rw [e1, e2]; exact a9, by rw [e1, e2, e3]; exact a10, by rw [e1, e2, e3]; exact a11, by rw [e2]; exact a12, by rw [e3]; exact a13, by rw [e1, e2]; exact a14⟩
structure Near (p : Int → Int) (l : List Arc) (on : List Int) (n s : Nat) (sts : List Step) (dist : List Int) (rk : Nat → Int) : Prop where
 slen : sts.length = n
 dlen : dist.length = n
 src : kn sts s = true ∧ dAt dist s = 0
 nn : ∀ v, v < n → kn sts v = true → 0 ≤ dAt dist v
 bd : ∀ v, v < n → kn sts v = true → dAt dist v + p v ≤ 65536 * n
 rkb : ∀ v, v < n → kn sts v = true → 0 ≤ rk v ∧ rk v ≤ n
 par : ∀ v, v < n → kn sts v = true → v ≠ s → ∃ u i fw r w, u < n ∧ kn sts u = true ∧ REdge p l on i fw u v r w ∧ sts.getD v default = ⟨u, i, r, fw, true, 0⟩ ∧ dAt dist v = dAt dist u + w ∧ rk u < rk v
 clo : ∀ i fw u v r w, REdge p l on i fw u v r w → u < n → v < n → kn sts u = true → kn sts v = true ∧ dAt dist v ≤ dAt dist u + w
theorem DI.near (h : DI p l on n s x (fun _ _ => True) st done rk D) (he : st.h = []) : Near p l on n s st.sts st.dist rk := by
 have hall : ∀ v, v < n → kn st.sts v = true → dnB done v = true := fun v hv hk => by
  cases hd : dnB done v with
  | true => rfl
  | false =>
   obtain ⟨y, hy, _⟩ := h.live v hv hk hd
   rw [he] at hy; cases hy
 have hop : (0 : Int) ≤ openN done := by omega
 refine ⟨h.slen, h.dlen, h.src, h.nn, fun v hv hk => ?_, fun v hv hk => ?_, fun v hv hk hvs => ?_, fun i fw u v r w hE hu hv hk => h.clo i fw u v r w hE hv (hall u hu hk) (.inr trivial)⟩
 ·have h1 := h.bd v hv (hall v hv hk)
  have h2 := (h.dn v hv (hall v hv hk)).2.2
  omega
 ·have h2 := h.dn v hv (hall v hv hk)
  omega
 ·obtain ⟨u, i, fw, r, w, q1, q2, q3, q4, q5, q6⟩ := h.par v hv hk hvs
  exact ⟨u, i, fw, r, w, q1, (h.dn u q1 q2).1, q3, q4, q5, q6 (hall v hv hk)⟩
theorem Near.tree (h : Near p l on n s st.sts st.dist rk) : Tree rk l on n s st.sts := ⟨h.rkb, fun v hv hk hvs => by
 obtain ⟨u, i, fw, r, w, q1, q2, q3, q4, _, q6⟩ := h.par v hv hk hvs
 exact ⟨u, q1, q2, q6, by rw [q4]; exact q3.edge⟩⟩
end
end Go.Proofs.YtgcokllbophkkaaGreat.Flo
namespace Go.Proofs.YtgcokllbophkkaaGreat.Flo
open Go Go.W Go.RowKit
def nTail (g : NAdr) (n : Nat) (Ap : Option Addr) (np capp : Nat) (done : List Bool) (s : NSt) : List Blk :=
 [⟨g.gdo, 154, [.slice (some ⟨g.gD, 0, none⟩) n n]⟩, ⟨g.gpo, 32, [.slice Ap np capp]⟩, ⟨g.gst, 175, [.slice (some ⟨g.gS, 0, none⟩) n n]⟩, ⟨g.gdi, 32, [.slice (some ⟨g.gI, 0, none⟩) n n]⟩, ⟨g.gwa, 198, [.pointer (some ⟨g.gq, 0, none⟩)]⟩,
  ⟨g.gD, 4, done.map Bo⟩, ⟨g.gS, 179, s.sts.flatMap stepCells⟩, ⟨g.gI, 3, s.dist.map I⟩] ++ qLv g.gq s.A s.cap s.h s.p s.Lo
abbrev pof (pots : List Int) : Int → Int := fun u => pots.getD u.toNat 0
structure NI (p : Int → Int) (l : List Arc) (on : List Int) (n s x : Nat) (Pr : Nat → Bool → Prop) (done : List Bool) (rk : Nat → Int) (D : Int) (mp mh : Nat) (st : NSt) : Prop where
 ok : NStOk n st
 di : DI p l on n s x Pr st done rk D
 hD : D = dAt st.dist x
 p1 : 0 ≤ st.p ∧ st.p ≤ mp
 h1 : (st.h.length : Int) ≤ st.p
 h2 : st.h.length ≤ mh
theorem NI.skip {p : Int → Int} {l : List Arc} {on : List Int} {n s x : Nat} {Pr Pr' : Nat → Bool → Prop} {done : List Bool} {rk : Nat → Int} {D : Int} {mp mh mp' mh' : Nat} {st : NSt} (h : NI p l on n s x Pr done rk D mp mh st)
  (hp : ∀ i fw u v r w, REdge p l on i fw u v r w → Pr' i fw → Pr i fw) (h1 : mp ≤ mp') (h2 : mh ≤ mh') : NI p l on n s x Pr' done rk D mp' mh' st :=
 ⟨h.ok, h.di.pr hp, h.hD, ⟨h.p1.1, by have := h.p1.2; omega⟩, h.h1, by have := h.h2; omega⟩
theorem NVis.dist_x {x : Nat} {xd : Int} {pots : List Int} {done : List Bool} {a b arc : Nat} {room cost : Int} {fwd : Bool} {s s' : NSt} (h : NVis x xd pots done a b arc room cost fwd s s') (hx : dnB done x = true) (hb : b < s.dist.length) : dAt s'.dist x = dAt s.dist x := by
 unfold NVis at h
 split at h
 ·rename_i hc
  unfold nVisC at hc
  simp only [Bool.and_eq_true, Bool.not_eq_true'] at hc
  have hne : b ≠ x := fun he => by
   have h1 : dnB done b = false := hc.1.2
   rw [he, hx] at h1; cases h1
  rw [h.2.1, dAt_set hb, if_neg hne]
 ·rw [h.2.1]
theorem NVis.cnt {x : Nat} {xd : Int} {pots : List Int} {done : List Bool} {a b arc : Nat} {room cost : Int} {fwd : Bool} {s s' : NSt} (h : NVis x xd pots done a b arc room cost fwd s s') : (s'.p = s.p ∧ s'.h.length = s.h.length) ∨ (s'.p = s.p + 1 ∧ s'.h.length = s.h.length + 1) := by
 unfold NVis at h
 split at h
 ·exact .inr ⟨h.2.2.2, by rw [h.2.2.1.length_eq]; simp⟩
 ·exact .inl ⟨h.2.2.2, by rw [h.2.2.1]⟩
abbrev nS (g n : Nat) : Blk := ⟨g, 179, mkL n (stepCells default)⟩
abbrev nI (g n : Nat) : Blk := ⟨g, 3, mkL n [I 0]⟩
abbrev nD (g n : Nat) : Blk := ⟨g, 4, mkL n [Bo false]⟩
abbrev nQ (t g : Nat) (A : Option Addr) (n : Nat) : Blk := ⟨g, t, [.slice A n n]⟩
abbrev nP (t g a n : Nat) : Blk := ⟨g, t, [.slice (some ⟨a, 0, none⟩) n n]⟩
abbrev nO (g5 g3 n : Nat) (A B Ap : Option Addr) (l o p cap cap2 capp : Nat) : List Blk := [⟨g5, 32, [.slice Ap p capp]⟩, ⟨g3, 174, [I n, .slice A l cap, .slice B o cap2]⟩]
theorem flowNearest (n s : Nat) (A B Ap : Option Addr) (l : List Arc) (on pots : List Int) (cap cap2 capp : Nat) (w0 : World) (hs : s < n) (hN : NetOk n l) (hlen : on.length = l.length) (hpl : pots.length = n)
  (hz : ArcsAt w0 A l) (ho : IntsAt w0 B on) (hp : IntsAt w0 Ap pots) (hV : VFlow l on) (hO : OptPot (fun u => pots.getD u.toNat 0) l on) (hp0 : pots.getD s 0 = 0) (hpb : ∀ i (h : i < pots.length), 0 ≤ pots[i] ∧ pots[i] ≤ 1000000000000) :
  Calls Tryz.prog 114 #[.agg #[I n, .slice A l.length cap, .slice B on.length cap2], I s, .slice Ap pots.length capp] w0
   fun e w' => ∃ (gS gI : Nat) (sts : List Step) (dist : List Int) (rk : Nat → Int), e = .returned (.tuple #[.slice (some ⟨gS, 0, none⟩) n n, .slice (some ⟨gI, 0, none⟩) n n]) ∧ Near (fun u => pots.getD u.toNat 0) l on n s sts dist rk ∧ SH w0 [] w' [⟨gS, 179, sts.flatMap stepCells⟩, ⟨gI, 3, dist.map I⟩] := by
 have H := SH.refl w0
 have hn2 := hN.n2
 refine Calls.ofWP Tryz.func114 rfl Tryz.results114 Tryz.ntmps114 rfl <| Y.qr <| Y.bx (cA rfl) H ?_
 clear H; intro g3 w H
 refine OPS.box rfl rfl rfl rfl (cS rfl) H ?_
 clear H; intro g5 w H
 refine Y.v (Ev.asS rfl) <| Y.v (Ev.asS rfl) <| Y.z <| Y.q ?_
 refine WP.rheldC [8, 9, 10, 14, 15, 16, 17, 18, 19, 20, 21, 22, 23, 24, 25] (fun u w' => ∃ (g17 g21 g25 g8 g9 g10 : Nat), u 8 = .pointer (some ⟨g8, 0, none⟩) ∧ u 9 = .pointer (some ⟨g9, 0, none⟩) ∧ u 10 = .pointer (some ⟨g10, 0, none⟩) ∧ SH w0 [] w' [⟨g17, 179, mkL n (stepCells default)⟩, ⟨g21, 3, mkL n [I 0]⟩, ⟨g25, 4, mkL n [Bo false]⟩, ⟨g8, 175, [.slice (some ⟨g17, 0, none⟩) n n]⟩, ⟨g9, 32, [.slice (some ⟨g21, 0, none⟩) n n]⟩, ⟨g10, 154, [.slice (some ⟨g25, 0, none⟩) n n]⟩, ⟨g5, 32, [.slice Ap pots.length capp]⟩, ⟨g3, 174, [I n, .slice A l.length cap, .slice B on.length cap2]⟩]) mixed H ?_ ?_
 ·clear H; intro w hbw1 H
  refine Y.t 0 H rfl rfl (fun w H => Y.f rfl rfl) <| Y.t 1 H rfl rfl (fun w H => Y.f rfl rfl) <| Y.t 2 H rfl rfl (fun w H => Y.l H 1 rfl rfl rfl) <| Y.t 4 H rfl rfl (fun w H => Y.f rfl rfl) <| Y.t 5 H rfl rfl (fun w H => Y.f rfl rfl) <| Y.t 6 H rfl rfl (fun w H => Y.l H 1 rfl rfl rfl) <| Y.t 8 H rfl rfl (fun w H => Y.f rfl rfl) <| Y.t 9 H rfl rfl (fun w H => Y.f rfl rfl) <| Y.t 10 H rfl rfl (fun w H => Y.l H 1 rfl rfl rfl) <| OPH.named (f' := 9) (ls' := (bb 18 1911)) rfl (by kernel_rfl) ?_
  intro Q hQ
  generalize he0 : (upd _ _ _ : Env) = e0
  have f16 : e0 16 = I n := by rw [← he0]; rfl
  have f20 : e0 20 = I n := by rw [← he0]; rfl
  have f24 : e0 24 = I n := by rw [← he0]; rfl
  have s70 : ∀ g17 g21 g25 g8 g9 g10 : Nat, DQ Q 0 (bb 18 262143) w0 [] ([nS g17 n, nI g21 n, nD g25 n, nP 175 g8 g17 n, nP 32 g9 g21 n, nP 154 g10 g25 n] ++ nO g5 g3 n A B Ap l.length on.length pots.length cap cap2 capp) (upd (upd (upd (upd (upd (upd e0 17 (vS g17 n)) 21 (vS g21 n)) 25 (vS g25 n)) 8 (vP g8)) 9 (vP g9)) 10 (vP g10)) := by
   intro g17 g21 g25 g8 g9 g10 w H; rw [hQ]
   refine Y.dn ?_
   exact ⟨(by (repeat refine Agree.upd rfl ?_); rw [← he0]; exact Y.ag), g17, g21, g25, g8, g9, g10, rfl, rfl, rfl, H⟩
  have s69 : ∀ g17 g21 g25 g8 g9 g10 : Nat, DQ Q 1 (bb 18 131071) w0 [] ([nS g17 n, nI g21 n, nD g25 n, nP 175 g8 g17 n, nP 32 g9 g21 n, nQ 154 g10 none 0] ++ nO g5 g3 n A B Ap l.length on.length pots.length cap cap2 capp) (upd (upd (upd (upd (upd (upd e0 17 (vS g17 n)) 21 (vS g21 n)) 25 (vS g25 n)) 8 (vP g8)) 9 (vP g9)) 10 (vP g10)) := by
   intro g17 g21 g25 g8 g9 g10 w H; rw [hQ]
   refine Y.A1 17 rfl rfl <| Y.st 5 H rfl (cS rfl) rfl ?_
   intro w H
   refine OPS.nil ⟨H.rx [6, 7], ?_⟩
   rw [← hQ]; exact qd (s70 g17 g21 g25 g8 g9 g10 w (H))
  clear s70
  have s67 : ∀ g17 g21 g25 g8 g9 g10 : Nat, DQ Q 2 (bb 18 65535) w0 [] ([nS g17 n, nI g21 n, nD g25 n, nP 175 g8 g17 n, nQ 32 g9 none 0, nQ 154 g10 none 0] ++ nO g5 g3 n A B Ap l.length on.length pots.length cap cap2 capp) (upd (upd (upd (upd (upd (upd e0 17 (vS g17 n)) 21 (vS g21 n)) 25 (vS g25 n)) 8 (vP g8)) 9 (vP g9)) 10 (vP g10)) := by
   intro g17 g21 g25 g8 g9 g10 w H; rw [hQ]
   refine Y.A1 16 rfl rfl <| Y.st 4 H rfl (cS rfl) rfl ?_
   intro w H
   refine OPS.nil ⟨H.rx [6, 7], ?_⟩
   rw [← hQ]; exact qd (s69 g17 g21 g25 g8 g9 g10 w (H))
  have s68 : ∀ g17 g21 g8 g9 g10 : Nat, DQ Q 2 (bb 18 129023) w0 [] ([nS g17 n, nI g21 n, nP 175 g8 g17 n, nP 32 g9 g21 n, nQ 154 g10 none 0] ++ nO g5 g3 n A B Ap l.length on.length pots.length cap cap2 capp) (upd (upd (upd (upd (upd e0 17 (vS g17 n)) 21 (vS g21 n)) 8 (vP g8)) 9 (vP g9)) 10 (vP g10)) := by
   intro g17 g21 g8 g9 g10 w H; rw [hQ]
   refine Y.A1 11 rfl rfl <| Y.mk H (sl_run rfl) ?_
   intro g25 w H
   refine OPS.nil ⟨H.rx [6, 7], ?_⟩
   rw [← hQ, uc 10 25, uc 9 25, uc 8 25]; exact qd (s69 g17 g21 g25 g8 g9 g10 w (H.rx [1, 2, 0, 3, 4, 5, 6, 7]))
  clear s69
  have s64 : ∀ g17 g21 g25 g8 g9 g10 : Nat, DQ Q 3 (bb 18 32767) w0 [] ([nS g17 n, nI g21 n, nD g25 n, nQ 175 g8 none 0, nQ 32 g9 none 0, nQ 154 g10 none 0] ++ nO g5 g3 n A B Ap l.length on.length pots.length cap cap2 capp) (upd (upd (upd (upd (upd (upd e0 17 (vS g17 n)) 21 (vS g21 n)) 25 (vS g25 n)) 8 (vP g8)) 9 (vP g9)) 10 (vP g10)) := by
   intro g17 g21 g25 g8 g9 g10 w H; rw [hQ]
   refine Y.A1 15 rfl rfl <| Y.st 3 H rfl (cS rfl) rfl ?_
   intro w H
   refine OPS.nil ⟨H.rx [6, 7], ?_⟩
   rw [← hQ]; exact qd (s67 g17 g21 g25 g8 g9 g10 w (H))
  have s65 : ∀ g17 g21 g8 g9 g10 : Nat, DQ Q 3 (bb 18 63487) w0 [] ([nS g17 n, nI g21 n, nP 175 g8 g17 n, nQ 32 g9 none 0, nQ 154 g10 none 0] ++ nO g5 g3 n A B Ap l.length on.length pots.length cap cap2 capp) (upd (upd (upd (upd (upd e0 17 (vS g17 n)) 21 (vS g21 n)) 8 (vP g8)) 9 (vP g9)) 10 (vP g10)) := by
   intro g17 g21 g8 g9 g10 w H; rw [hQ]
   refine Y.A2 11 16 rfl rfl rfl ?_ ?_
   ·refine Y.mk H (sl_run rfl) ?_
    intro g25 w H
    refine OPS.nil ⟨H.rx [6, 7], ?_⟩
    rw [← hQ, uc 10 25, uc 9 25, uc 8 25]; exact qd (s67 g17 g21 g25 g8 g9 g10 w (H.rx [1, 2, 0, 3, 4, 5, 6, 7]))
   ·refine Y.st 3 H rfl (cS rfl) rfl ?_
    intro w H
    refine OPS.nil ⟨H.rx [5, 6], ?_⟩
    rw [← hQ]; exact qd (s68 g17 g21 g8 g9 g10 w (H))
  have s66 : ∀ g17 g25 g8 g9 g10 : Nat, DQ Q 3 (bb 18 65407) w0 [] ([nS g17 n, nD g25 n, nP 175 g8 g17 n, nQ 32 g9 none 0, nQ 154 g10 none 0] ++ nO g5 g3 n A B Ap l.length on.length pots.length cap cap2 capp) (upd (upd (upd (upd (upd e0 17 (vS g17 n)) 25 (vS g25 n)) 8 (vP g8)) 9 (vP g9)) 10 (vP g10)) := by
   intro g17 g25 g8 g9 g10 w H; rw [hQ]
   refine Y.A1 7 rfl rfl <| Y.mk H (sl_run rfl) ?_
   intro g21 w H
   refine OPS.nil ⟨H.rx [6, 7], ?_⟩
   rw [← hQ, uc 10 21, uc 9 21, uc 8 21, uc 25 21]; exact qd (s67 g17 g21 g25 g8 g9 g10 w (H.rx [1, 0, 2, 3, 4, 5, 6, 7]))
  clear s67 s68
  have s57 : ∀ g17 g21 g25 g8 g9 : Nat, DQ Q 4 (bb 18 16383) w0 [] ([nS g17 n, nI g21 n, nD g25 n, nQ 175 g8 none 0, nQ 32 g9 none 0] ++ nO g5 g3 n A B Ap l.length on.length pots.length cap cap2 capp) (upd (upd (upd (upd (upd e0 17 (vS g17 n)) 21 (vS g21 n)) 25 (vS g25 n)) 8 (vP g8)) 9 (vP g9)) := by
   intro g17 g21 g25 g8 g9 w H; rw [hQ]
   refine Y.A1 14 rfl rfl <| Y.al H rfl rfl ?_
   intro g10 w H
   refine OPS.nil ⟨H.rx [6, 7], ?_⟩
   rw [← hQ]; exact qd (s64 g17 g21 g25 g8 g9 g10 w (H.rx [1, 2, 3, 4, 5, 0, 6, 7]))
  have s58 : ∀ g17 g21 g25 g8 g10 : Nat, DQ Q 4 (bb 18 24575) w0 [] ([nS g17 n, nI g21 n, nD g25 n, nQ 175 g8 none 0, nQ 154 g10 none 0] ++ nO g5 g3 n A B Ap l.length on.length pots.length cap cap2 capp) (upd (upd (upd (upd (upd e0 17 (vS g17 n)) 21 (vS g21 n)) 25 (vS g25 n)) 8 (vP g8)) 10 (vP g10)) := by
   intro g17 g21 g25 g8 g10 w H; rw [hQ]
   refine Y.A1 13 rfl rfl <| Y.al H rfl rfl ?_
   intro g9 w H
   refine OPS.nil ⟨H.rx [6, 7], ?_⟩
   rw [← hQ, uc 10 9]; exact qd (s64 g17 g21 g25 g8 g9 g10 w (H.rx [1, 2, 3, 4, 0, 5, 6, 7]))
  have s59 : ∀ g17 g21 g25 g9 g10 : Nat, DQ Q 4 (bb 18 28671) w0 [] ([nS g17 n, nI g21 n, nD g25 n, nQ 32 g9 none 0, nQ 154 g10 none 0] ++ nO g5 g3 n A B Ap l.length on.length pots.length cap cap2 capp) (upd (upd (upd (upd (upd e0 17 (vS g17 n)) 21 (vS g21 n)) 25 (vS g25 n)) 9 (vP g9)) 10 (vP g10)) := by
   intro g17 g21 g25 g9 g10 w H; rw [hQ]
   refine Y.A1 12 rfl rfl <| Y.al H rfl rfl ?_
   intro g8 w H
   refine OPS.nil ⟨H.rx [6, 7], ?_⟩
   rw [← hQ, uc 10 8, uc 9 8]; exact qd (s64 g17 g21 g25 g8 g9 g10 w (H.rx [1, 2, 3, 0, 4, 5, 6, 7]))
  have s60 : ∀ g17 g21 g8 g9 g10 : Nat, DQ Q 4 (bb 18 30719) w0 [] ([nS g17 n, nI g21 n, nQ 175 g8 none 0, nQ 32 g9 none 0, nQ 154 g10 none 0] ++ nO g5 g3 n A B Ap l.length on.length pots.length cap cap2 capp) (upd (upd (upd (upd (upd e0 17 (vS g17 n)) 21 (vS g21 n)) 8 (vP g8)) 9 (vP g9)) 10 (vP g10)) := by
   intro g17 g21 g8 g9 g10 w H; rw [hQ]
   refine Y.A2 11 15 rfl rfl rfl ?_ ?_
   ·refine Y.mk H (sl_run rfl) ?_
    intro g25 w H
    refine OPS.nil ⟨H.rx [6, 7], ?_⟩
    rw [← hQ, uc 10 25, uc 9 25, uc 8 25]; exact qd (s64 g17 g21 g25 g8 g9 g10 w (H.rx [1, 2, 0, 3, 4, 5, 6, 7]))
   ·refine Y.st 2 H rfl (cS rfl) rfl ?_
    intro w H
    refine OPS.nil ⟨H.rx [5, 6], ?_⟩
    rw [← hQ]; exact qd (s65 g17 g21 g8 g9 g10 w (H))
  have s61 : ∀ g17 g25 g8 g9 g10 : Nat, DQ Q 4 (bb 18 32639) w0 [] ([nS g17 n, nD g25 n, nQ 175 g8 none 0, nQ 32 g9 none 0, nQ 154 g10 none 0] ++ nO g5 g3 n A B Ap l.length on.length pots.length cap cap2 capp) (upd (upd (upd (upd (upd e0 17 (vS g17 n)) 25 (vS g25 n)) 8 (vP g8)) 9 (vP g9)) 10 (vP g10)) := by
   intro g17 g25 g8 g9 g10 w H; rw [hQ]
   refine Y.A2 7 15 rfl rfl rfl ?_ ?_
   ·refine Y.mk H (sl_run rfl) ?_
    intro g21 w H
    refine OPS.nil ⟨H.rx [6, 7], ?_⟩
    rw [← hQ, uc 10 21, uc 9 21, uc 8 21, uc 25 21]; exact qd (s64 g17 g21 g25 g8 g9 g10 w (H.rx [1, 0, 2, 3, 4, 5, 6, 7]))
   ·refine Y.st 2 H rfl (cS rfl) rfl ?_
    intro w H
    refine OPS.nil ⟨H.rx [5, 6], ?_⟩
    rw [← hQ]; exact qd (s66 g17 g25 g8 g9 g10 w (H))
  have s62 : ∀ g17 g8 g9 g10 : Nat, DQ Q 4 (bb 18 63359) w0 [] ([nS g17 n, nP 175 g8 g17 n, nQ 32 g9 none 0, nQ 154 g10 none 0] ++ nO g5 g3 n A B Ap l.length on.length pots.length cap cap2 capp) (upd (upd (upd (upd e0 17 (vS g17 n)) 8 (vP g8)) 9 (vP g9)) 10 (vP g10)) := by
   intro g17 g8 g9 g10 w H; rw [hQ]
   refine Y.A2 7 11 rfl rfl rfl ?_ ?_
   ·refine Y.mk H (sl_run rfl) ?_
    intro g21 w H
    refine OPS.nil ⟨H.rx [5, 6], ?_⟩
    rw [← hQ, uc 10 21, uc 9 21, uc 8 21]; exact qd (s65 g17 g21 g8 g9 g10 w (H.rx [1, 0, 2, 3, 4, 5, 6]))
   ·refine Y.mk H (sl_run rfl) ?_
    intro g25 w H
    refine OPS.nil ⟨H.rx [5, 6], ?_⟩
    rw [← hQ, uc 10 25, uc 9 25, uc 8 25]; exact qd (s66 g17 g25 g8 g9 g10 w (H.rx [1, 0, 2, 3, 4, 5, 6]))
  have s63 : ∀ g21 g25 g8 g9 g10 : Nat, DQ Q 4 (bb 18 32759) w0 [] ([nI g21 n, nD g25 n, nQ 175 g8 none 0, nQ 32 g9 none 0, nQ 154 g10 none 0] ++ nO g5 g3 n A B Ap l.length on.length pots.length cap cap2 capp) (upd (upd (upd (upd (upd e0 21 (vS g21 n)) 25 (vS g25 n)) 8 (vP g8)) 9 (vP g9)) 10 (vP g10)) := by
   intro g21 g25 g8 g9 g10 w H; rw [hQ]
   refine Y.A1 3 rfl rfl <| Y.mk H (sl_run rfl) ?_
   intro g17 w H
   refine OPS.nil ⟨H.rx [6, 7], ?_⟩
   rw [← hQ, uc 10 17, uc 9 17, uc 8 17, uc 25 17, uc 21 17]; exact qd (s64 g17 g21 g25 g8 g9 g10 w (H.rx [0, 1, 2, 3, 4, 5, 6, 7]))
  clear s64 s65 s66
  have s42 : ∀ g17 g21 g25 g8 : Nat, DQ Q 5 (bb 18 8191) w0 [] ([nS g17 n, nI g21 n, nD g25 n, nQ 175 g8 none 0] ++ nO g5 g3 n A B Ap l.length on.length pots.length cap cap2 capp) (upd (upd (upd (upd e0 17 (vS g17 n)) 21 (vS g21 n)) 25 (vS g25 n)) 8 (vP g8)) := by
   intro g17 g21 g25 g8 w H; rw [hQ]
   refine Y.A2 13 14 rfl rfl rfl ?_ ?_
   ·refine Y.al H rfl rfl ?_
    intro g9 w H
    refine OPS.nil ⟨H.rx [5, 6], ?_⟩
    rw [← hQ]; exact qd (s57 g17 g21 g25 g8 g9 w (H.rx [1, 2, 3, 4, 0, 5, 6]))
   ·refine Y.al H rfl rfl ?_
    intro g10 w H
    refine OPS.nil ⟨H.rx [5, 6], ?_⟩
    rw [← hQ]; exact qd (s58 g17 g21 g25 g8 g10 w (H.rx [1, 2, 3, 4, 0, 5, 6]))
  have s43 : ∀ g17 g21 g25 g9 : Nat, DQ Q 5 (bb 18 12287) w0 [] ([nS g17 n, nI g21 n, nD g25 n, nQ 32 g9 none 0] ++ nO g5 g3 n A B Ap l.length on.length pots.length cap cap2 capp) (upd (upd (upd (upd e0 17 (vS g17 n)) 21 (vS g21 n)) 25 (vS g25 n)) 9 (vP g9)) := by
   intro g17 g21 g25 g9 w H; rw [hQ]
   refine Y.A2 12 14 rfl rfl rfl ?_ ?_
   ·refine Y.al H rfl rfl ?_
    intro g8 w H
    refine OPS.nil ⟨H.rx [5, 6], ?_⟩
    rw [← hQ, uc 9 8]; exact qd (s57 g17 g21 g25 g8 g9 w (H.rx [1, 2, 3, 0, 4, 5, 6]))
   ·refine Y.al H rfl rfl ?_
    intro g10 w H
    refine OPS.nil ⟨H.rx [5, 6], ?_⟩
    rw [← hQ]; exact qd (s59 g17 g21 g25 g9 g10 w (H.rx [1, 2, 3, 4, 0, 5, 6]))
  have s44 : ∀ g17 g21 g25 g10 : Nat, DQ Q 5 (bb 18 20479) w0 [] ([nS g17 n, nI g21 n, nD g25 n, nQ 154 g10 none 0] ++ nO g5 g3 n A B Ap l.length on.length pots.length cap cap2 capp) (upd (upd (upd (upd e0 17 (vS g17 n)) 21 (vS g21 n)) 25 (vS g25 n)) 10 (vP g10)) := by
   intro g17 g21 g25 g10 w H; rw [hQ]
   refine Y.A2 12 13 rfl rfl rfl ?_ ?_
   ·refine Y.al H rfl rfl ?_
    intro g8 w H
    refine OPS.nil ⟨H.rx [5, 6], ?_⟩
    rw [← hQ, uc 10 8]; exact qd (s58 g17 g21 g25 g8 g10 w (H.rx [1, 2, 3, 0, 4, 5, 6]))
   ·refine Y.al H rfl rfl ?_
    intro g9 w H
    refine OPS.nil ⟨H.rx [5, 6], ?_⟩
    rw [← hQ, uc 10 9]; exact qd (s59 g17 g21 g25 g9 g10 w (H.rx [1, 2, 3, 0, 4, 5, 6]))
  have s45 : ∀ g17 g21 g8 g9 : Nat, DQ Q 5 (bb 18 14335) w0 [] ([nS g17 n, nI g21 n, nQ 175 g8 none 0, nQ 32 g9 none 0] ++ nO g5 g3 n A B Ap l.length on.length pots.length cap cap2 capp) (upd (upd (upd (upd e0 17 (vS g17 n)) 21 (vS g21 n)) 8 (vP g8)) 9 (vP g9)) := by
   intro g17 g21 g8 g9 w H; rw [hQ]
   refine Y.A2 11 14 rfl rfl rfl ?_ ?_
   ·refine Y.mk H (sl_run rfl) ?_
    intro g25 w H
    refine OPS.nil ⟨H.rx [5, 6], ?_⟩
    rw [← hQ, uc 9 25, uc 8 25]; exact qd (s57 g17 g21 g25 g8 g9 w (H.rx [1, 2, 0, 3, 4, 5, 6]))
   ·refine Y.al H rfl rfl ?_
    intro g10 w H
    refine OPS.nil ⟨H.rx [5, 6], ?_⟩
    rw [← hQ]; exact qd (s60 g17 g21 g8 g9 g10 w (H.rx [1, 2, 3, 4, 0, 5, 6]))
  have s46 : ∀ g17 g21 g8 g10 : Nat, DQ Q 5 (bb 18 22527) w0 [] ([nS g17 n, nI g21 n, nQ 175 g8 none 0, nQ 154 g10 none 0] ++ nO g5 g3 n A B Ap l.length on.length pots.length cap cap2 capp) (upd (upd (upd (upd e0 17 (vS g17 n)) 21 (vS g21 n)) 8 (vP g8)) 10 (vP g10)) := by
   intro g17 g21 g8 g10 w H; rw [hQ]
   refine Y.A2 11 13 rfl rfl rfl ?_ ?_
   ·refine Y.mk H (sl_run rfl) ?_
    intro g25 w H
    refine OPS.nil ⟨H.rx [5, 6], ?_⟩
    rw [← hQ, uc 10 25, uc 8 25]; exact qd (s58 g17 g21 g25 g8 g10 w (H.rx [1, 2, 0, 3, 4, 5, 6]))
   ·refine Y.al H rfl rfl ?_
    intro g9 w H
    refine OPS.nil ⟨H.rx [5, 6], ?_⟩
    rw [← hQ, uc 10 9]; exact qd (s60 g17 g21 g8 g9 g10 w (H.rx [1, 2, 3, 0, 4, 5, 6]))
  have s47 : ∀ g17 g21 g9 g10 : Nat, DQ Q 5 (bb 18 26623) w0 [] ([nS g17 n, nI g21 n, nQ 32 g9 none 0, nQ 154 g10 none 0] ++ nO g5 g3 n A B Ap l.length on.length pots.length cap cap2 capp) (upd (upd (upd (upd e0 17 (vS g17 n)) 21 (vS g21 n)) 9 (vP g9)) 10 (vP g10)) := by
   intro g17 g21 g9 g10 w H; rw [hQ]
   refine Y.A2 11 12 rfl rfl rfl ?_ ?_
   ·refine Y.mk H (sl_run rfl) ?_
    intro g25 w H
    refine OPS.nil ⟨H.rx [5, 6], ?_⟩
    rw [← hQ, uc 10 25, uc 9 25]; exact qd (s59 g17 g21 g25 g9 g10 w (H.rx [1, 2, 0, 3, 4, 5, 6]))
   ·refine Y.al H rfl rfl ?_
    intro g8 w H
    refine OPS.nil ⟨H.rx [5, 6], ?_⟩
    rw [← hQ, uc 10 8, uc 9 8]; exact qd (s60 g17 g21 g8 g9 g10 w (H.rx [1, 2, 0, 3, 4, 5, 6]))
  have s48 : ∀ g17 g25 g8 g9 : Nat, DQ Q 5 (bb 18 16255) w0 [] ([nS g17 n, nD g25 n, nQ 175 g8 none 0, nQ 32 g9 none 0] ++ nO g5 g3 n A B Ap l.length on.length pots.length cap cap2 capp) (upd (upd (upd (upd e0 17 (vS g17 n)) 25 (vS g25 n)) 8 (vP g8)) 9 (vP g9)) := by
   intro g17 g25 g8 g9 w H; rw [hQ]
   refine Y.A2 7 14 rfl rfl rfl ?_ ?_
   ·refine Y.mk H (sl_run rfl) ?_
    intro g21 w H
    refine OPS.nil ⟨H.rx [5, 6], ?_⟩
    rw [← hQ, uc 9 21, uc 8 21, uc 25 21]; exact qd (s57 g17 g21 g25 g8 g9 w (H.rx [1, 0, 2, 3, 4, 5, 6]))
   ·refine Y.al H rfl rfl ?_
    intro g10 w H
    refine OPS.nil ⟨H.rx [5, 6], ?_⟩
    rw [← hQ]; exact qd (s61 g17 g25 g8 g9 g10 w (H.rx [1, 2, 3, 4, 0, 5, 6]))
  have s49 : ∀ g17 g25 g8 g10 : Nat, DQ Q 5 (bb 18 24447) w0 [] ([nS g17 n, nD g25 n, nQ 175 g8 none 0, nQ 154 g10 none 0] ++ nO g5 g3 n A B Ap l.length on.length pots.length cap cap2 capp) (upd (upd (upd (upd e0 17 (vS g17 n)) 25 (vS g25 n)) 8 (vP g8)) 10 (vP g10)) := by
   intro g17 g25 g8 g10 w H; rw [hQ]
   refine Y.A2 7 13 rfl rfl rfl ?_ ?_
   ·refine Y.mk H (sl_run rfl) ?_
    intro g21 w H
    refine OPS.nil ⟨H.rx [5, 6], ?_⟩
    rw [← hQ, uc 10 21, uc 8 21, uc 25 21]; exact qd (s58 g17 g21 g25 g8 g10 w (H.rx [1, 0, 2, 3, 4, 5, 6]))
   ·refine Y.al H rfl rfl ?_
    intro g9 w H
    refine OPS.nil ⟨H.rx [5, 6], ?_⟩
    rw [← hQ, uc 10 9]; exact qd (s61 g17 g25 g8 g9 g10 w (H.rx [1, 2, 3, 0, 4, 5, 6]))
  have s50 : ∀ g17 g25 g9 g10 : Nat, DQ Q 5 (bb 18 28543) w0 [] ([nS g17 n, nD g25 n, nQ 32 g9 none 0, nQ 154 g10 none 0] ++ nO g5 g3 n A B Ap l.length on.length pots.length cap cap2 capp) (upd (upd (upd (upd e0 17 (vS g17 n)) 25 (vS g25 n)) 9 (vP g9)) 10 (vP g10)) := by
   intro g17 g25 g9 g10 w H; rw [hQ]
   refine Y.A2 7 12 rfl rfl rfl ?_ ?_
   ·refine Y.mk H (sl_run rfl) ?_
    intro g21 w H
    refine OPS.nil ⟨H.rx [5, 6], ?_⟩
    rw [← hQ, uc 10 21, uc 9 21, uc 25 21]; exact qd (s59 g17 g21 g25 g9 g10 w (H.rx [1, 0, 2, 3, 4, 5, 6]))
   ·refine Y.al H rfl rfl ?_
    intro g8 w H
    refine OPS.nil ⟨H.rx [5, 6], ?_⟩
    rw [← hQ, uc 10 8, uc 9 8]; exact qd (s61 g17 g25 g8 g9 g10 w (H.rx [1, 2, 0, 3, 4, 5, 6]))
  have s51 : ∀ g17 g8 g9 g10 : Nat, DQ Q 5 (bb 18 30591) w0 [] ([nS g17 n, nQ 175 g8 none 0, nQ 32 g9 none 0, nQ 154 g10 none 0] ++ nO g5 g3 n A B Ap l.length on.length pots.length cap cap2 capp) (upd (upd (upd (upd e0 17 (vS g17 n)) 8 (vP g8)) 9 (vP g9)) 10 (vP g10)) := by
   intro g17 g8 g9 g10 w H; rw [hQ]
   refine Y.A [7, 11, 15] rfl ⟨⟨_, rfl, ?_⟩, ⟨_, rfl, ?_⟩, ⟨_, rfl, ?_⟩, trivial⟩
   ·refine Y.mk H (sl_run rfl) ?_
    intro g21 w H
    refine OPS.nil ⟨H.rx [5, 6], ?_⟩
    rw [← hQ, uc 10 21, uc 9 21, uc 8 21]; exact qd (s60 g17 g21 g8 g9 g10 w (H.rx [1, 0, 2, 3, 4, 5, 6]))
   ·refine Y.mk H (sl_run rfl) ?_
    intro g25 w H
    refine OPS.nil ⟨H.rx [5, 6], ?_⟩
    rw [← hQ, uc 10 25, uc 9 25, uc 8 25]; exact qd (s61 g17 g25 g8 g9 g10 w (H.rx [1, 0, 2, 3, 4, 5, 6]))
   ·refine Y.st 1 H rfl (cS rfl) rfl ?_
    intro w H
    refine OPS.nil ⟨H.rx [4, 5], ?_⟩
    rw [← hQ]; exact qd (s62 g17 g8 g9 g10 w (H))
  have s52 : ∀ g21 g25 g8 g9 : Nat, DQ Q 5 (bb 18 16375) w0 [] ([nI g21 n, nD g25 n, nQ 175 g8 none 0, nQ 32 g9 none 0] ++ nO g5 g3 n A B Ap l.length on.length pots.length cap cap2 capp) (upd (upd (upd (upd e0 21 (vS g21 n)) 25 (vS g25 n)) 8 (vP g8)) 9 (vP g9)) := by
   intro g21 g25 g8 g9 w H; rw [hQ]
   refine Y.A2 3 14 rfl rfl rfl ?_ ?_
   ·refine Y.mk H (sl_run rfl) ?_
    intro g17 w H
    refine OPS.nil ⟨H.rx [5, 6], ?_⟩
    rw [← hQ, uc 9 17, uc 8 17, uc 25 17, uc 21 17]; exact qd (s57 g17 g21 g25 g8 g9 w (H.rx [0, 1, 2, 3, 4, 5, 6]))
   ·refine Y.al H rfl rfl ?_
    intro g10 w H
    refine OPS.nil ⟨H.rx [5, 6], ?_⟩
    rw [← hQ]; exact qd (s63 g21 g25 g8 g9 g10 w (H.rx [1, 2, 3, 4, 0, 5, 6]))
  have s53 : ∀ g21 g25 g8 g10 : Nat, DQ Q 5 (bb 18 24567) w0 [] ([nI g21 n, nD g25 n, nQ 175 g8 none 0, nQ 154 g10 none 0] ++ nO g5 g3 n A B Ap l.length on.length pots.length cap cap2 capp) (upd (upd (upd (upd e0 21 (vS g21 n)) 25 (vS g25 n)) 8 (vP g8)) 10 (vP g10)) := by
   intro g21 g25 g8 g10 w H; rw [hQ]
   refine Y.A2 3 13 rfl rfl rfl ?_ ?_
   ·refine Y.mk H (sl_run rfl) ?_
    intro g17 w H
    refine OPS.nil ⟨H.rx [5, 6], ?_⟩
    rw [← hQ, uc 10 17, uc 8 17, uc 25 17, uc 21 17]; exact qd (s58 g17 g21 g25 g8 g10 w (H.rx [0, 1, 2, 3, 4, 5, 6]))
   ·refine Y.al H rfl rfl ?_
    intro g9 w H
    refine OPS.nil ⟨H.rx [5, 6], ?_⟩
    rw [← hQ, uc 10 9]; exact qd (s63 g21 g25 g8 g9 g10 w (H.rx [1, 2, 3, 0, 4, 5, 6]))
  have s54 : ∀ g21 g25 g9 g10 : Nat, DQ Q 5 (bb 18 28663) w0 [] ([nI g21 n, nD g25 n, nQ 32 g9 none 0, nQ 154 g10 none 0] ++ nO g5 g3 n A B Ap l.length on.length pots.length cap cap2 capp) (upd (upd (upd (upd e0 21 (vS g21 n)) 25 (vS g25 n)) 9 (vP g9)) 10 (vP g10)) := by
   intro g21 g25 g9 g10 w H; rw [hQ]
   refine Y.A2 3 12 rfl rfl rfl ?_ ?_
   ·refine Y.mk H (sl_run rfl) ?_
    intro g17 w H
    refine OPS.nil ⟨H.rx [5, 6], ?_⟩
    rw [← hQ, uc 10 17, uc 9 17, uc 25 17, uc 21 17]; exact qd (s59 g17 g21 g25 g9 g10 w (H.rx [0, 1, 2, 3, 4, 5, 6]))
   ·refine Y.al H rfl rfl ?_
    intro g8 w H
    refine OPS.nil ⟨H.rx [5, 6], ?_⟩
    rw [← hQ, uc 10 8, uc 9 8]; exact qd (s63 g21 g25 g8 g9 g10 w (H.rx [1, 2, 0, 3, 4, 5, 6]))
  have s55 : ∀ g21 g8 g9 g10 : Nat, DQ Q 5 (bb 18 30711) w0 [] ([nI g21 n, nQ 175 g8 none 0, nQ 32 g9 none 0, nQ 154 g10 none 0] ++ nO g5 g3 n A B Ap l.length on.length pots.length cap cap2 capp) (upd (upd (upd (upd e0 21 (vS g21 n)) 8 (vP g8)) 9 (vP g9)) 10 (vP g10)) := by
   intro g21 g8 g9 g10 w H; rw [hQ]
   refine Y.A2 3 11 rfl rfl rfl ?_ ?_
   ·refine Y.mk H (sl_run rfl) ?_
    intro g17 w H
    refine OPS.nil ⟨H.rx [5, 6], ?_⟩
    rw [← hQ, uc 10 17, uc 9 17, uc 8 17, uc 21 17]; exact qd (s60 g17 g21 g8 g9 g10 w (H.rx [0, 1, 2, 3, 4, 5, 6]))
   ·refine Y.mk H (sl_run rfl) ?_
    intro g25 w H
    refine OPS.nil ⟨H.rx [5, 6], ?_⟩
    rw [← hQ, uc 10 25, uc 9 25, uc 8 25]; exact qd (s63 g21 g25 g8 g9 g10 w (H.rx [1, 0, 2, 3, 4, 5, 6]))
  have s56 : ∀ g25 g8 g9 g10 : Nat, DQ Q 5 (bb 18 32631) w0 [] ([nD g25 n, nQ 175 g8 none 0, nQ 32 g9 none 0, nQ 154 g10 none 0] ++ nO g5 g3 n A B Ap l.length on.length pots.length cap cap2 capp) (upd (upd (upd (upd e0 25 (vS g25 n)) 8 (vP g8)) 9 (vP g9)) 10 (vP g10)) := by
   intro g25 g8 g9 g10 w H; rw [hQ]
   refine Y.A2 3 7 rfl rfl rfl ?_ ?_
   ·refine Y.mk H (sl_run rfl) ?_
    intro g17 w H
    refine OPS.nil ⟨H.rx [5, 6], ?_⟩
    rw [← hQ, uc 10 17, uc 9 17, uc 8 17, uc 25 17]; exact qd (s61 g17 g25 g8 g9 g10 w (H.rx [0, 1, 2, 3, 4, 5, 6]))
   ·refine Y.mk H (sl_run rfl) ?_
    intro g21 w H
    refine OPS.nil ⟨H.rx [5, 6], ?_⟩
    rw [← hQ, uc 10 21, uc 9 21, uc 8 21, uc 25 21]; exact qd (s63 g21 g25 g8 g9 g10 w (H.rx [0, 1, 2, 3, 4, 5, 6]))
  clear s57 s58 s59 s60 s61 s62 s63
  have s22 : ∀ g17 g21 g25 : Nat, DQ Q 6 (bb 18 4095) w0 [] ([nS g17 n, nI g21 n, nD g25 n] ++ nO g5 g3 n A B Ap l.length on.length pots.length cap cap2 capp) (upd (upd (upd e0 17 (vS g17 n)) 21 (vS g21 n)) 25 (vS g25 n)) := by
   intro g17 g21 g25 w H; rw [hQ]
   refine Y.A [12, 13, 14] rfl ⟨⟨_, rfl, ?_⟩, ⟨_, rfl, ?_⟩, ⟨_, rfl, ?_⟩, trivial⟩
   ·refine Y.al H rfl rfl ?_
    intro g8 w H
    refine OPS.nil ⟨H.rx [4, 5], ?_⟩
    rw [← hQ]; exact qd (s42 g17 g21 g25 g8 w (H.rx [1, 2, 3, 0, 4, 5]))
   ·refine Y.al H rfl rfl ?_
    intro g9 w H
    refine OPS.nil ⟨H.rx [4, 5], ?_⟩
    rw [← hQ]; exact qd (s43 g17 g21 g25 g9 w (H.rx [1, 2, 3, 0, 4, 5]))
   ·refine Y.al H rfl rfl ?_
    intro g10 w H
    refine OPS.nil ⟨H.rx [4, 5], ?_⟩
    rw [← hQ]; exact qd (s44 g17 g21 g25 g10 w (H.rx [1, 2, 3, 0, 4, 5]))
  have s23 : ∀ g17 g21 g8 : Nat, DQ Q 6 (bb 18 6143) w0 [] ([nS g17 n, nI g21 n, nQ 175 g8 none 0] ++ nO g5 g3 n A B Ap l.length on.length pots.length cap cap2 capp) (upd (upd (upd e0 17 (vS g17 n)) 21 (vS g21 n)) 8 (vP g8)) := by
   intro g17 g21 g8 w H; rw [hQ]
   refine Y.A [11, 13, 14] rfl ⟨⟨_, rfl, ?_⟩, ⟨_, rfl, ?_⟩, ⟨_, rfl, ?_⟩, trivial⟩
   ·refine Y.mk H (sl_run rfl) ?_
    intro g25 w H
    refine OPS.nil ⟨H.rx [4, 5], ?_⟩
    rw [← hQ, uc 8 25]; exact qd (s42 g17 g21 g25 g8 w (H.rx [1, 2, 0, 3, 4, 5]))
   ·refine Y.al H rfl rfl ?_
    intro g9 w H
    refine OPS.nil ⟨H.rx [4, 5], ?_⟩
    rw [← hQ]; exact qd (s45 g17 g21 g8 g9 w (H.rx [1, 2, 3, 0, 4, 5]))
   ·refine Y.al H rfl rfl ?_
    intro g10 w H
    refine OPS.nil ⟨H.rx [4, 5], ?_⟩
    rw [← hQ]; exact qd (s46 g17 g21 g8 g10 w (H.rx [1, 2, 3, 0, 4, 5]))
  have s24 : ∀ g17 g21 g9 : Nat, DQ Q 6 (bb 18 10239) w0 [] ([nS g17 n, nI g21 n, nQ 32 g9 none 0] ++ nO g5 g3 n A B Ap l.length on.length pots.length cap cap2 capp) (upd (upd (upd e0 17 (vS g17 n)) 21 (vS g21 n)) 9 (vP g9)) := by
   intro g17 g21 g9 w H; rw [hQ]
   refine Y.A [11, 12, 14] rfl ⟨⟨_, rfl, ?_⟩, ⟨_, rfl, ?_⟩, ⟨_, rfl, ?_⟩, trivial⟩
   ·refine Y.mk H (sl_run rfl) ?_
    intro g25 w H
    refine OPS.nil ⟨H.rx [4, 5], ?_⟩
    rw [← hQ, uc 9 25]; exact qd (s43 g17 g21 g25 g9 w (H.rx [1, 2, 0, 3, 4, 5]))
   ·refine Y.al H rfl rfl ?_
    intro g8 w H
    refine OPS.nil ⟨H.rx [4, 5], ?_⟩
    rw [← hQ, uc 9 8]; exact qd (s45 g17 g21 g8 g9 w (H.rx [1, 2, 0, 3, 4, 5]))
   ·refine Y.al H rfl rfl ?_
    intro g10 w H
    refine OPS.nil ⟨H.rx [4, 5], ?_⟩
    rw [← hQ]; exact qd (s47 g17 g21 g9 g10 w (H.rx [1, 2, 3, 0, 4, 5]))
  have s25 : ∀ g17 g21 g10 : Nat, DQ Q 6 (bb 18 18431) w0 [] ([nS g17 n, nI g21 n, nQ 154 g10 none 0] ++ nO g5 g3 n A B Ap l.length on.length pots.length cap cap2 capp) (upd (upd (upd e0 17 (vS g17 n)) 21 (vS g21 n)) 10 (vP g10)) := by
   intro g17 g21 g10 w H; rw [hQ]
   refine Y.A [11, 12, 13] rfl ⟨⟨_, rfl, ?_⟩, ⟨_, rfl, ?_⟩, ⟨_, rfl, ?_⟩, trivial⟩
   ·refine Y.mk H (sl_run rfl) ?_
    intro g25 w H
    refine OPS.nil ⟨H.rx [4, 5], ?_⟩
    rw [← hQ, uc 10 25]; exact qd (s44 g17 g21 g25 g10 w (H.rx [1, 2, 0, 3, 4, 5]))
   ·refine Y.al H rfl rfl ?_
    intro g8 w H
    refine OPS.nil ⟨H.rx [4, 5], ?_⟩
    rw [← hQ, uc 10 8]; exact qd (s46 g17 g21 g8 g10 w (H.rx [1, 2, 0, 3, 4, 5]))
   ·refine Y.al H rfl rfl ?_
    intro g9 w H
    refine OPS.nil ⟨H.rx [4, 5], ?_⟩
    rw [← hQ, uc 10 9]; exact qd (s47 g17 g21 g9 g10 w (H.rx [1, 2, 0, 3, 4, 5]))
  have s26 : ∀ g17 g25 g8 : Nat, DQ Q 6 (bb 18 8063) w0 [] ([nS g17 n, nD g25 n, nQ 175 g8 none 0] ++ nO g5 g3 n A B Ap l.length on.length pots.length cap cap2 capp) (upd (upd (upd e0 17 (vS g17 n)) 25 (vS g25 n)) 8 (vP g8)) := by
   intro g17 g25 g8 w H; rw [hQ]
   refine Y.A [7, 13, 14] rfl ⟨⟨_, rfl, ?_⟩, ⟨_, rfl, ?_⟩, ⟨_, rfl, ?_⟩, trivial⟩
   ·refine Y.mk H (sl_run rfl) ?_
    intro g21 w H
    refine OPS.nil ⟨H.rx [4, 5], ?_⟩
    rw [← hQ, uc 8 21, uc 25 21]; exact qd (s42 g17 g21 g25 g8 w (H.rx [1, 0, 2, 3, 4, 5]))
   ·refine Y.al H rfl rfl ?_
    intro g9 w H
    refine OPS.nil ⟨H.rx [4, 5], ?_⟩
    rw [← hQ]; exact qd (s48 g17 g25 g8 g9 w (H.rx [1, 2, 3, 0, 4, 5]))
   ·refine Y.al H rfl rfl ?_
    intro g10 w H
    refine OPS.nil ⟨H.rx [4, 5], ?_⟩
    rw [← hQ]; exact qd (s49 g17 g25 g8 g10 w (H.rx [1, 2, 3, 0, 4, 5]))
  have s27 : ∀ g17 g25 g9 : Nat, DQ Q 6 (bb 18 12159) w0 [] ([nS g17 n, nD g25 n, nQ 32 g9 none 0] ++ nO g5 g3 n A B Ap l.length on.length pots.length cap cap2 capp) (upd (upd (upd e0 17 (vS g17 n)) 25 (vS g25 n)) 9 (vP g9)) := by
   intro g17 g25 g9 w H; rw [hQ]
   refine Y.A [7, 12, 14] rfl ⟨⟨_, rfl, ?_⟩, ⟨_, rfl, ?_⟩, ⟨_, rfl, ?_⟩, trivial⟩
   ·refine Y.mk H (sl_run rfl) ?_
    intro g21 w H
    refine OPS.nil ⟨H.rx [4, 5], ?_⟩
    rw [← hQ, uc 9 21, uc 25 21]; exact qd (s43 g17 g21 g25 g9 w (H.rx [1, 0, 2, 3, 4, 5]))
   ·refine Y.al H rfl rfl ?_
    intro g8 w H
    refine OPS.nil ⟨H.rx [4, 5], ?_⟩
    rw [← hQ, uc 9 8]; exact qd (s48 g17 g25 g8 g9 w (H.rx [1, 2, 0, 3, 4, 5]))
   ·refine Y.al H rfl rfl ?_
    intro g10 w H
    refine OPS.nil ⟨H.rx [4, 5], ?_⟩
    rw [← hQ]; exact qd (s50 g17 g25 g9 g10 w (H.rx [1, 2, 3, 0, 4, 5]))
  have s28 : ∀ g17 g25 g10 : Nat, DQ Q 6 (bb 18 20351) w0 [] ([nS g17 n, nD g25 n, nQ 154 g10 none 0] ++ nO g5 g3 n A B Ap l.length on.length pots.length cap cap2 capp) (upd (upd (upd e0 17 (vS g17 n)) 25 (vS g25 n)) 10 (vP g10)) := by
   intro g17 g25 g10 w H; rw [hQ]
   refine Y.A [7, 12, 13] rfl ⟨⟨_, rfl, ?_⟩, ⟨_, rfl, ?_⟩, ⟨_, rfl, ?_⟩, trivial⟩
   ·refine Y.mk H (sl_run rfl) ?_
    intro g21 w H
    refine OPS.nil ⟨H.rx [4, 5], ?_⟩
    rw [← hQ, uc 10 21, uc 25 21]; exact qd (s44 g17 g21 g25 g10 w (H.rx [1, 0, 2, 3, 4, 5]))
   ·refine Y.al H rfl rfl ?_
    intro g8 w H
    refine OPS.nil ⟨H.rx [4, 5], ?_⟩
    rw [← hQ, uc 10 8]; exact qd (s49 g17 g25 g8 g10 w (H.rx [1, 2, 0, 3, 4, 5]))
   ·refine Y.al H rfl rfl ?_
    intro g9 w H
    refine OPS.nil ⟨H.rx [4, 5], ?_⟩
    rw [← hQ, uc 10 9]; exact qd (s50 g17 g25 g9 g10 w (H.rx [1, 2, 0, 3, 4, 5]))
  have s29 : ∀ g17 g8 g9 : Nat, DQ Q 6 (bb 18 14207) w0 [] ([nS g17 n, nQ 175 g8 none 0, nQ 32 g9 none 0] ++ nO g5 g3 n A B Ap l.length on.length pots.length cap cap2 capp) (upd (upd (upd e0 17 (vS g17 n)) 8 (vP g8)) 9 (vP g9)) := by
   intro g17 g8 g9 w H; rw [hQ]
   refine Y.A [7, 11, 14] rfl ⟨⟨_, rfl, ?_⟩, ⟨_, rfl, ?_⟩, ⟨_, rfl, ?_⟩, trivial⟩
   ·refine Y.mk H (sl_run rfl) ?_
    intro g21 w H
    refine OPS.nil ⟨H.rx [4, 5], ?_⟩
    rw [← hQ, uc 9 21, uc 8 21]; exact qd (s45 g17 g21 g8 g9 w (H.rx [1, 0, 2, 3, 4, 5]))
   ·refine Y.mk H (sl_run rfl) ?_
    intro g25 w H
    refine OPS.nil ⟨H.rx [4, 5], ?_⟩
    rw [← hQ, uc 9 25, uc 8 25]; exact qd (s48 g17 g25 g8 g9 w (H.rx [1, 0, 2, 3, 4, 5]))
   ·refine Y.al H rfl rfl ?_
    intro g10 w H
    refine OPS.nil ⟨H.rx [4, 5], ?_⟩
    rw [← hQ]; exact qd (s51 g17 g8 g9 g10 w (H.rx [1, 2, 3, 0, 4, 5]))
  have s30 : ∀ g17 g8 g10 : Nat, DQ Q 6 (bb 18 22399) w0 [] ([nS g17 n, nQ 175 g8 none 0, nQ 154 g10 none 0] ++ nO g5 g3 n A B Ap l.length on.length pots.length cap cap2 capp) (upd (upd (upd e0 17 (vS g17 n)) 8 (vP g8)) 10 (vP g10)) := by
   intro g17 g8 g10 w H; rw [hQ]
   refine Y.A [7, 11, 13] rfl ⟨⟨_, rfl, ?_⟩, ⟨_, rfl, ?_⟩, ⟨_, rfl, ?_⟩, trivial⟩
   ·refine Y.mk H (sl_run rfl) ?_
    intro g21 w H
    refine OPS.nil ⟨H.rx [4, 5], ?_⟩
    rw [← hQ, uc 10 21, uc 8 21]; exact qd (s46 g17 g21 g8 g10 w (H.rx [1, 0, 2, 3, 4, 5]))
   ·refine Y.mk H (sl_run rfl) ?_
    intro g25 w H
    refine OPS.nil ⟨H.rx [4, 5], ?_⟩
    rw [← hQ, uc 10 25, uc 8 25]; exact qd (s49 g17 g25 g8 g10 w (H.rx [1, 0, 2, 3, 4, 5]))
   ·refine Y.al H rfl rfl ?_
    intro g9 w H
    refine OPS.nil ⟨H.rx [4, 5], ?_⟩
    rw [← hQ, uc 10 9]; exact qd (s51 g17 g8 g9 g10 w (H.rx [1, 2, 0, 3, 4, 5]))
  have s31 : ∀ g17 g9 g10 : Nat, DQ Q 6 (bb 18 26495) w0 [] ([nS g17 n, nQ 32 g9 none 0, nQ 154 g10 none 0] ++ nO g5 g3 n A B Ap l.length on.length pots.length cap cap2 capp) (upd (upd (upd e0 17 (vS g17 n)) 9 (vP g9)) 10 (vP g10)) := by
   intro g17 g9 g10 w H; rw [hQ]
   refine Y.A [7, 11, 12] rfl ⟨⟨_, rfl, ?_⟩, ⟨_, rfl, ?_⟩, ⟨_, rfl, ?_⟩, trivial⟩
   ·refine Y.mk H (sl_run rfl) ?_
    intro g21 w H
    refine OPS.nil ⟨H.rx [4, 5], ?_⟩
    rw [← hQ, uc 10 21, uc 9 21]; exact qd (s47 g17 g21 g9 g10 w (H.rx [1, 0, 2, 3, 4, 5]))
   ·refine Y.mk H (sl_run rfl) ?_
    intro g25 w H
    refine OPS.nil ⟨H.rx [4, 5], ?_⟩
    rw [← hQ, uc 10 25, uc 9 25]; exact qd (s50 g17 g25 g9 g10 w (H.rx [1, 0, 2, 3, 4, 5]))
   ·refine Y.al H rfl rfl ?_
    intro g8 w H
    refine OPS.nil ⟨H.rx [4, 5], ?_⟩
    rw [← hQ, uc 10 8, uc 9 8]; exact qd (s51 g17 g8 g9 g10 w (H.rx [1, 0, 2, 3, 4, 5]))
  have s32 : ∀ g21 g25 g8 : Nat, DQ Q 6 (bb 18 8183) w0 [] ([nI g21 n, nD g25 n, nQ 175 g8 none 0] ++ nO g5 g3 n A B Ap l.length on.length pots.length cap cap2 capp) (upd (upd (upd e0 21 (vS g21 n)) 25 (vS g25 n)) 8 (vP g8)) := by
   intro g21 g25 g8 w H; rw [hQ]
   refine Y.A [3, 13, 14] rfl ⟨⟨_, rfl, ?_⟩, ⟨_, rfl, ?_⟩, ⟨_, rfl, ?_⟩, trivial⟩
   ·refine Y.mk H (sl_run rfl) ?_
    intro g17 w H
    refine OPS.nil ⟨H.rx [4, 5], ?_⟩
    rw [← hQ, uc 8 17, uc 25 17, uc 21 17]; exact qd (s42 g17 g21 g25 g8 w (H.rx [0, 1, 2, 3, 4, 5]))
   ·refine Y.al H rfl rfl ?_
    intro g9 w H
    refine OPS.nil ⟨H.rx [4, 5], ?_⟩
    rw [← hQ]; exact qd (s52 g21 g25 g8 g9 w (H.rx [1, 2, 3, 0, 4, 5]))
   ·refine Y.al H rfl rfl ?_
    intro g10 w H
    refine OPS.nil ⟨H.rx [4, 5], ?_⟩
    rw [← hQ]; exact qd (s53 g21 g25 g8 g10 w (H.rx [1, 2, 3, 0, 4, 5]))
  have s33 : ∀ g21 g25 g9 : Nat, DQ Q 6 (bb 18 12279) w0 [] ([nI g21 n, nD g25 n, nQ 32 g9 none 0] ++ nO g5 g3 n A B Ap l.length on.length pots.length cap cap2 capp) (upd (upd (upd e0 21 (vS g21 n)) 25 (vS g25 n)) 9 (vP g9)) := by
   intro g21 g25 g9 w H; rw [hQ]
   refine Y.A [3, 12, 14] rfl ⟨⟨_, rfl, ?_⟩, ⟨_, rfl, ?_⟩, ⟨_, rfl, ?_⟩, trivial⟩
   ·refine Y.mk H (sl_run rfl) ?_
    intro g17 w H
    refine OPS.nil ⟨H.rx [4, 5], ?_⟩
    rw [← hQ, uc 9 17, uc 25 17, uc 21 17]; exact qd (s43 g17 g21 g25 g9 w (H.rx [0, 1, 2, 3, 4, 5]))
   ·refine Y.al H rfl rfl ?_
    intro g8 w H
    refine OPS.nil ⟨H.rx [4, 5], ?_⟩
    rw [← hQ, uc 9 8]; exact qd (s52 g21 g25 g8 g9 w (H.rx [1, 2, 0, 3, 4, 5]))
   ·refine Y.al H rfl rfl ?_
    intro g10 w H
    refine OPS.nil ⟨H.rx [4, 5], ?_⟩
    rw [← hQ]; exact qd (s54 g21 g25 g9 g10 w (H.rx [1, 2, 3, 0, 4, 5]))
  have s34 : ∀ g21 g25 g10 : Nat, DQ Q 6 (bb 18 20471) w0 [] ([nI g21 n, nD g25 n, nQ 154 g10 none 0] ++ nO g5 g3 n A B Ap l.length on.length pots.length cap cap2 capp) (upd (upd (upd e0 21 (vS g21 n)) 25 (vS g25 n)) 10 (vP g10)) := by
   intro g21 g25 g10 w H; rw [hQ]
   refine Y.A [3, 12, 13] rfl ⟨⟨_, rfl, ?_⟩, ⟨_, rfl, ?_⟩, ⟨_, rfl, ?_⟩, trivial⟩
   ·refine Y.mk H (sl_run rfl) ?_
    intro g17 w H
    refine OPS.nil ⟨H.rx [4, 5], ?_⟩
    rw [← hQ, uc 10 17, uc 25 17, uc 21 17]; exact qd (s44 g17 g21 g25 g10 w (H.rx [0, 1, 2, 3, 4, 5]))
   ·refine Y.al H rfl rfl ?_
    intro g8 w H
    refine OPS.nil ⟨H.rx [4, 5], ?_⟩
    rw [← hQ, uc 10 8]; exact qd (s53 g21 g25 g8 g10 w (H.rx [1, 2, 0, 3, 4, 5]))
   ·refine Y.al H rfl rfl ?_
    intro g9 w H
    refine OPS.nil ⟨H.rx [4, 5], ?_⟩
    rw [← hQ, uc 10 9]; exact qd (s54 g21 g25 g9 g10 w (H.rx [1, 2, 0, 3, 4, 5]))
  have s35 : ∀ g21 g8 g9 : Nat, DQ Q 6 (bb 18 14327) w0 [] ([nI g21 n, nQ 175 g8 none 0, nQ 32 g9 none 0] ++ nO g5 g3 n A B Ap l.length on.length pots.length cap cap2 capp) (upd (upd (upd e0 21 (vS g21 n)) 8 (vP g8)) 9 (vP g9)) := by
   intro g21 g8 g9 w H; rw [hQ]
   refine Y.A [3, 11, 14] rfl ⟨⟨_, rfl, ?_⟩, ⟨_, rfl, ?_⟩, ⟨_, rfl, ?_⟩, trivial⟩
   ·refine Y.mk H (sl_run rfl) ?_
    intro g17 w H
    refine OPS.nil ⟨H.rx [4, 5], ?_⟩
    rw [← hQ, uc 9 17, uc 8 17, uc 21 17]; exact qd (s45 g17 g21 g8 g9 w (H.rx [0, 1, 2, 3, 4, 5]))
   ·refine Y.mk H (sl_run rfl) ?_
    intro g25 w H
    refine OPS.nil ⟨H.rx [4, 5], ?_⟩
    rw [← hQ, uc 9 25, uc 8 25]; exact qd (s52 g21 g25 g8 g9 w (H.rx [1, 0, 2, 3, 4, 5]))
   ·refine Y.al H rfl rfl ?_
    intro g10 w H
    refine OPS.nil ⟨H.rx [4, 5], ?_⟩
    rw [← hQ]; exact qd (s55 g21 g8 g9 g10 w (H.rx [1, 2, 3, 0, 4, 5]))
  have s36 : ∀ g21 g8 g10 : Nat, DQ Q 6 (bb 18 22519) w0 [] ([nI g21 n, nQ 175 g8 none 0, nQ 154 g10 none 0] ++ nO g5 g3 n A B Ap l.length on.length pots.length cap cap2 capp) (upd (upd (upd e0 21 (vS g21 n)) 8 (vP g8)) 10 (vP g10)) := by
   intro g21 g8 g10 w H; rw [hQ]
   refine Y.A [3, 11, 13] rfl ⟨⟨_, rfl, ?_⟩, ⟨_, rfl, ?_⟩, ⟨_, rfl, ?_⟩, trivial⟩
   ·refine Y.mk H (sl_run rfl) ?_
    intro g17 w H
    refine OPS.nil ⟨H.rx [4, 5], ?_⟩
    rw [← hQ, uc 10 17, uc 8 17, uc 21 17]; exact qd (s46 g17 g21 g8 g10 w (H.rx [0, 1, 2, 3, 4, 5]))
   ·refine Y.mk H (sl_run rfl) ?_
    intro g25 w H
    refine OPS.nil ⟨H.rx [4, 5], ?_⟩
    rw [← hQ, uc 10 25, uc 8 25]; exact qd (s53 g21 g25 g8 g10 w (H.rx [1, 0, 2, 3, 4, 5]))
   ·refine Y.al H rfl rfl ?_
    intro g9 w H
    refine OPS.nil ⟨H.rx [4, 5], ?_⟩
    rw [← hQ, uc 10 9]; exact qd (s55 g21 g8 g9 g10 w (H.rx [1, 2, 0, 3, 4, 5]))
  have s37 : ∀ g21 g9 g10 : Nat, DQ Q 6 (bb 18 26615) w0 [] ([nI g21 n, nQ 32 g9 none 0, nQ 154 g10 none 0] ++ nO g5 g3 n A B Ap l.length on.length pots.length cap cap2 capp) (upd (upd (upd e0 21 (vS g21 n)) 9 (vP g9)) 10 (vP g10)) := by
   intro g21 g9 g10 w H; rw [hQ]
   refine Y.A [3, 11, 12] rfl ⟨⟨_, rfl, ?_⟩, ⟨_, rfl, ?_⟩, ⟨_, rfl, ?_⟩, trivial⟩
   ·refine Y.mk H (sl_run rfl) ?_
    intro g17 w H
    refine OPS.nil ⟨H.rx [4, 5], ?_⟩
    rw [← hQ, uc 10 17, uc 9 17, uc 21 17]; exact qd (s47 g17 g21 g9 g10 w (H.rx [0, 1, 2, 3, 4, 5]))
   ·refine Y.mk H (sl_run rfl) ?_
    intro g25 w H
    refine OPS.nil ⟨H.rx [4, 5], ?_⟩
    rw [← hQ, uc 10 25, uc 9 25]; exact qd (s54 g21 g25 g9 g10 w (H.rx [1, 0, 2, 3, 4, 5]))
   ·refine Y.al H rfl rfl ?_
    intro g8 w H
    refine OPS.nil ⟨H.rx [4, 5], ?_⟩
    rw [← hQ, uc 10 8, uc 9 8]; exact qd (s55 g21 g8 g9 g10 w (H.rx [1, 0, 2, 3, 4, 5]))
  have s38 : ∀ g25 g8 g9 : Nat, DQ Q 6 (bb 18 16247) w0 [] ([nD g25 n, nQ 175 g8 none 0, nQ 32 g9 none 0] ++ nO g5 g3 n A B Ap l.length on.length pots.length cap cap2 capp) (upd (upd (upd e0 25 (vS g25 n)) 8 (vP g8)) 9 (vP g9)) := by
   intro g25 g8 g9 w H; rw [hQ]
   refine Y.A [3, 7, 14] rfl ⟨⟨_, rfl, ?_⟩, ⟨_, rfl, ?_⟩, ⟨_, rfl, ?_⟩, trivial⟩
   ·refine Y.mk H (sl_run rfl) ?_
    intro g17 w H
    refine OPS.nil ⟨H.rx [4, 5], ?_⟩
    rw [← hQ, uc 9 17, uc 8 17, uc 25 17]; exact qd (s48 g17 g25 g8 g9 w (H.rx [0, 1, 2, 3, 4, 5]))
   ·refine Y.mk H (sl_run rfl) ?_
    intro g21 w H
    refine OPS.nil ⟨H.rx [4, 5], ?_⟩
    rw [← hQ, uc 9 21, uc 8 21, uc 25 21]; exact qd (s52 g21 g25 g8 g9 w (H.rx [0, 1, 2, 3, 4, 5]))
   ·refine Y.al H rfl rfl ?_
    intro g10 w H
    refine OPS.nil ⟨H.rx [4, 5], ?_⟩
    rw [← hQ]; exact qd (s56 g25 g8 g9 g10 w (H.rx [1, 2, 3, 0, 4, 5]))
  have s39 : ∀ g25 g8 g10 : Nat, DQ Q 6 (bb 18 24439) w0 [] ([nD g25 n, nQ 175 g8 none 0, nQ 154 g10 none 0] ++ nO g5 g3 n A B Ap l.length on.length pots.length cap cap2 capp) (upd (upd (upd e0 25 (vS g25 n)) 8 (vP g8)) 10 (vP g10)) := by
   intro g25 g8 g10 w H; rw [hQ]
   refine Y.A [3, 7, 13] rfl ⟨⟨_, rfl, ?_⟩, ⟨_, rfl, ?_⟩, ⟨_, rfl, ?_⟩, trivial⟩
   ·refine Y.mk H (sl_run rfl) ?_
    intro g17 w H
    refine OPS.nil ⟨H.rx [4, 5], ?_⟩
    rw [← hQ, uc 10 17, uc 8 17, uc 25 17]; exact qd (s49 g17 g25 g8 g10 w (H.rx [0, 1, 2, 3, 4, 5]))
   ·refine Y.mk H (sl_run rfl) ?_
    intro g21 w H
    refine OPS.nil ⟨H.rx [4, 5], ?_⟩
    rw [← hQ, uc 10 21, uc 8 21, uc 25 21]; exact qd (s53 g21 g25 g8 g10 w (H.rx [0, 1, 2, 3, 4, 5]))
   ·refine Y.al H rfl rfl ?_
    intro g9 w H
    refine OPS.nil ⟨H.rx [4, 5], ?_⟩
    rw [← hQ, uc 10 9]; exact qd (s56 g25 g8 g9 g10 w (H.rx [1, 2, 0, 3, 4, 5]))
  have s40 : ∀ g25 g9 g10 : Nat, DQ Q 6 (bb 18 28535) w0 [] ([nD g25 n, nQ 32 g9 none 0, nQ 154 g10 none 0] ++ nO g5 g3 n A B Ap l.length on.length pots.length cap cap2 capp) (upd (upd (upd e0 25 (vS g25 n)) 9 (vP g9)) 10 (vP g10)) := by
   intro g25 g9 g10 w H; rw [hQ]
   refine Y.A [3, 7, 12] rfl ⟨⟨_, rfl, ?_⟩, ⟨_, rfl, ?_⟩, ⟨_, rfl, ?_⟩, trivial⟩
   ·refine Y.mk H (sl_run rfl) ?_
    intro g17 w H
    refine OPS.nil ⟨H.rx [4, 5], ?_⟩
    rw [← hQ, uc 10 17, uc 9 17, uc 25 17]; exact qd (s50 g17 g25 g9 g10 w (H.rx [0, 1, 2, 3, 4, 5]))
   ·refine Y.mk H (sl_run rfl) ?_
    intro g21 w H
    refine OPS.nil ⟨H.rx [4, 5], ?_⟩
    rw [← hQ, uc 10 21, uc 9 21, uc 25 21]; exact qd (s54 g21 g25 g9 g10 w (H.rx [0, 1, 2, 3, 4, 5]))
   ·refine Y.al H rfl rfl ?_
    intro g8 w H
    refine OPS.nil ⟨H.rx [4, 5], ?_⟩
    rw [← hQ, uc 10 8, uc 9 8]; exact qd (s56 g25 g8 g9 g10 w (H.rx [1, 0, 2, 3, 4, 5]))
  have s41 : ∀ g8 g9 g10 : Nat, DQ Q 6 (bb 18 30583) w0 [] ([nQ 175 g8 none 0, nQ 32 g9 none 0, nQ 154 g10 none 0] ++ nO g5 g3 n A B Ap l.length on.length pots.length cap cap2 capp) (upd (upd (upd e0 8 (vP g8)) 9 (vP g9)) 10 (vP g10)) := by
   intro g8 g9 g10 w H; rw [hQ]
   refine Y.A [3, 7, 11] rfl ⟨⟨_, rfl, ?_⟩, ⟨_, rfl, ?_⟩, ⟨_, rfl, ?_⟩, trivial⟩
   ·refine Y.mk H (sl_run rfl) ?_
    intro g17 w H
    refine OPS.nil ⟨H.rx [4, 5], ?_⟩
    rw [← hQ, uc 10 17, uc 9 17, uc 8 17]; exact qd (s51 g17 g8 g9 g10 w (H.rx [0, 1, 2, 3, 4, 5]))
   ·refine Y.mk H (sl_run rfl) ?_
    intro g21 w H
    refine OPS.nil ⟨H.rx [4, 5], ?_⟩
    rw [← hQ, uc 10 21, uc 9 21, uc 8 21]; exact qd (s55 g21 g8 g9 g10 w (H.rx [0, 1, 2, 3, 4, 5]))
   ·refine Y.mk H (sl_run rfl) ?_
    intro g25 w H
    refine OPS.nil ⟨H.rx [4, 5], ?_⟩
    rw [← hQ, uc 10 25, uc 9 25, uc 8 25]; exact qd (s56 g25 g8 g9 g10 w (H.rx [0, 1, 2, 3, 4, 5]))
  clear s42 s43 s44 s45 s46 s47 s48 s49 s50 s51 s52 s53 s54 s55 s56
  have s7 : ∀ g17 g21 : Nat, DQ Q 7 (bb 18 2047) w0 [] ([nS g17 n, nI g21 n] ++ nO g5 g3 n A B Ap l.length on.length pots.length cap cap2 capp) (upd (upd e0 17 (vS g17 n)) 21 (vS g21 n)) := by
   intro g17 g21 w H; rw [hQ]
   refine Y.A [11, 12, 13, 14] rfl ⟨⟨_, rfl, ?_⟩, ⟨_, rfl, ?_⟩, ⟨_, rfl, ?_⟩, ⟨_, rfl, ?_⟩, trivial⟩
   ·refine Y.mk H (sl_run rfl) ?_
    intro g25 w H
    refine OPS.nil ⟨H.rx [3, 4], ?_⟩
    rw [← hQ]; exact qd (s22 g17 g21 g25 w (H.rx [1, 2, 0, 3, 4]))
   ·refine Y.al H rfl rfl ?_
    intro g8 w H
    refine OPS.nil ⟨H.rx [3, 4], ?_⟩
    rw [← hQ]; exact qd (s23 g17 g21 g8 w (H.rx [1, 2, 0, 3, 4]))
   ·refine Y.al H rfl rfl ?_
    intro g9 w H
    refine OPS.nil ⟨H.rx [3, 4], ?_⟩
    rw [← hQ]; exact qd (s24 g17 g21 g9 w (H.rx [1, 2, 0, 3, 4]))
   ·refine Y.al H rfl rfl ?_
    intro g10 w H
    refine OPS.nil ⟨H.rx [3, 4], ?_⟩
    rw [← hQ]; exact qd (s25 g17 g21 g10 w (H.rx [1, 2, 0, 3, 4]))
  have s8 : ∀ g17 g25 : Nat, DQ Q 7 (bb 18 3967) w0 [] ([nS g17 n, nD g25 n] ++ nO g5 g3 n A B Ap l.length on.length pots.length cap cap2 capp) (upd (upd e0 17 (vS g17 n)) 25 (vS g25 n)) := by
   intro g17 g25 w H; rw [hQ]
   refine Y.A [7, 12, 13, 14] rfl ⟨⟨_, rfl, ?_⟩, ⟨_, rfl, ?_⟩, ⟨_, rfl, ?_⟩, ⟨_, rfl, ?_⟩, trivial⟩
   ·refine Y.mk H (sl_run rfl) ?_
    intro g21 w H
    refine OPS.nil ⟨H.rx [3, 4], ?_⟩
    rw [← hQ, uc 25 21]; exact qd (s22 g17 g21 g25 w (H.rx [1, 0, 2, 3, 4]))
   ·refine Y.al H rfl rfl ?_
    intro g8 w H
    refine OPS.nil ⟨H.rx [3, 4], ?_⟩
    rw [← hQ]; exact qd (s26 g17 g25 g8 w (H.rx [1, 2, 0, 3, 4]))
   ·refine Y.al H rfl rfl ?_
    intro g9 w H
    refine OPS.nil ⟨H.rx [3, 4], ?_⟩
    rw [← hQ]; exact qd (s27 g17 g25 g9 w (H.rx [1, 2, 0, 3, 4]))
   ·refine Y.al H rfl rfl ?_
    intro g10 w H
    refine OPS.nil ⟨H.rx [3, 4], ?_⟩
    rw [← hQ]; exact qd (s28 g17 g25 g10 w (H.rx [1, 2, 0, 3, 4]))
  have s9 : ∀ g17 g8 : Nat, DQ Q 7 (bb 18 6015) w0 [] ([nS g17 n, nQ 175 g8 none 0] ++ nO g5 g3 n A B Ap l.length on.length pots.length cap cap2 capp) (upd (upd e0 17 (vS g17 n)) 8 (vP g8)) := by
   intro g17 g8 w H; rw [hQ]
   refine Y.A [7, 11, 13, 14] rfl ⟨⟨_, rfl, ?_⟩, ⟨_, rfl, ?_⟩, ⟨_, rfl, ?_⟩, ⟨_, rfl, ?_⟩, trivial⟩
   ·refine Y.mk H (sl_run rfl) ?_
    intro g21 w H
    refine OPS.nil ⟨H.rx [3, 4], ?_⟩
    rw [← hQ, uc 8 21]; exact qd (s23 g17 g21 g8 w (H.rx [1, 0, 2, 3, 4]))
   ·refine Y.mk H (sl_run rfl) ?_
    intro g25 w H
    refine OPS.nil ⟨H.rx [3, 4], ?_⟩
    rw [← hQ, uc 8 25]; exact qd (s26 g17 g25 g8 w (H.rx [1, 0, 2, 3, 4]))
   ·refine Y.al H rfl rfl ?_
    intro g9 w H
    refine OPS.nil ⟨H.rx [3, 4], ?_⟩
    rw [← hQ]; exact qd (s29 g17 g8 g9 w (H.rx [1, 2, 0, 3, 4]))
   ·refine Y.al H rfl rfl ?_
    intro g10 w H
    refine OPS.nil ⟨H.rx [3, 4], ?_⟩
    rw [← hQ]; exact qd (s30 g17 g8 g10 w (H.rx [1, 2, 0, 3, 4]))
  have s10 : ∀ g17 g9 : Nat, DQ Q 7 (bb 18 10111) w0 [] ([nS g17 n, nQ 32 g9 none 0] ++ nO g5 g3 n A B Ap l.length on.length pots.length cap cap2 capp) (upd (upd e0 17 (vS g17 n)) 9 (vP g9)) := by
   intro g17 g9 w H; rw [hQ]
   refine Y.A [7, 11, 12, 14] rfl ⟨⟨_, rfl, ?_⟩, ⟨_, rfl, ?_⟩, ⟨_, rfl, ?_⟩, ⟨_, rfl, ?_⟩, trivial⟩
   ·refine Y.mk H (sl_run rfl) ?_
    intro g21 w H
    refine OPS.nil ⟨H.rx [3, 4], ?_⟩
    rw [← hQ, uc 9 21]; exact qd (s24 g17 g21 g9 w (H.rx [1, 0, 2, 3, 4]))
   ·refine Y.mk H (sl_run rfl) ?_
    intro g25 w H
    refine OPS.nil ⟨H.rx [3, 4], ?_⟩
    rw [← hQ, uc 9 25]; exact qd (s27 g17 g25 g9 w (H.rx [1, 0, 2, 3, 4]))
   ·refine Y.al H rfl rfl ?_
    intro g8 w H
    refine OPS.nil ⟨H.rx [3, 4], ?_⟩
    rw [← hQ, uc 9 8]; exact qd (s29 g17 g8 g9 w (H.rx [1, 0, 2, 3, 4]))
   ·refine Y.al H rfl rfl ?_
    intro g10 w H
    refine OPS.nil ⟨H.rx [3, 4], ?_⟩
    rw [← hQ]; exact qd (s31 g17 g9 g10 w (H.rx [1, 2, 0, 3, 4]))
  have s11 : ∀ g17 g10 : Nat, DQ Q 7 (bb 18 18303) w0 [] ([nS g17 n, nQ 154 g10 none 0] ++ nO g5 g3 n A B Ap l.length on.length pots.length cap cap2 capp) (upd (upd e0 17 (vS g17 n)) 10 (vP g10)) := by
   intro g17 g10 w H; rw [hQ]
   refine Y.A [7, 11, 12, 13] rfl ⟨⟨_, rfl, ?_⟩, ⟨_, rfl, ?_⟩, ⟨_, rfl, ?_⟩, ⟨_, rfl, ?_⟩, trivial⟩
   ·refine Y.mk H (sl_run rfl) ?_
    intro g21 w H
    refine OPS.nil ⟨H.rx [3, 4], ?_⟩
    rw [← hQ, uc 10 21]; exact qd (s25 g17 g21 g10 w (H.rx [1, 0, 2, 3, 4]))
   ·refine Y.mk H (sl_run rfl) ?_
    intro g25 w H
    refine OPS.nil ⟨H.rx [3, 4], ?_⟩
    rw [← hQ, uc 10 25]; exact qd (s28 g17 g25 g10 w (H.rx [1, 0, 2, 3, 4]))
   ·refine Y.al H rfl rfl ?_
    intro g8 w H
    refine OPS.nil ⟨H.rx [3, 4], ?_⟩
    rw [← hQ, uc 10 8]; exact qd (s30 g17 g8 g10 w (H.rx [1, 0, 2, 3, 4]))
   ·refine Y.al H rfl rfl ?_
    intro g9 w H
    refine OPS.nil ⟨H.rx [3, 4], ?_⟩
    rw [← hQ, uc 10 9]; exact qd (s31 g17 g9 g10 w (H.rx [1, 0, 2, 3, 4]))
  have s12 : ∀ g21 g25 : Nat, DQ Q 7 (bb 18 4087) w0 [] ([nI g21 n, nD g25 n] ++ nO g5 g3 n A B Ap l.length on.length pots.length cap cap2 capp) (upd (upd e0 21 (vS g21 n)) 25 (vS g25 n)) := by
   intro g21 g25 w H; rw [hQ]
   refine Y.A [3, 12, 13, 14] rfl ⟨⟨_, rfl, ?_⟩, ⟨_, rfl, ?_⟩, ⟨_, rfl, ?_⟩, ⟨_, rfl, ?_⟩, trivial⟩
   ·refine Y.mk H (sl_run rfl) ?_
    intro g17 w H
    refine OPS.nil ⟨H.rx [3, 4], ?_⟩
    rw [← hQ, uc 25 17, uc 21 17]; exact qd (s22 g17 g21 g25 w (H.rx [0, 1, 2, 3, 4]))
   ·refine Y.al H rfl rfl ?_
    intro g8 w H
    refine OPS.nil ⟨H.rx [3, 4], ?_⟩
    rw [← hQ]; exact qd (s32 g21 g25 g8 w (H.rx [1, 2, 0, 3, 4]))
   ·refine Y.al H rfl rfl ?_
    intro g9 w H
    refine OPS.nil ⟨H.rx [3, 4], ?_⟩
    rw [← hQ]; exact qd (s33 g21 g25 g9 w (H.rx [1, 2, 0, 3, 4]))
   ·refine Y.al H rfl rfl ?_
    intro g10 w H
    refine OPS.nil ⟨H.rx [3, 4], ?_⟩
    rw [← hQ]; exact qd (s34 g21 g25 g10 w (H.rx [1, 2, 0, 3, 4]))
  have s13 : ∀ g21 g8 : Nat, DQ Q 7 (bb 18 6135) w0 [] ([nI g21 n, nQ 175 g8 none 0] ++ nO g5 g3 n A B Ap l.length on.length pots.length cap cap2 capp) (upd (upd e0 21 (vS g21 n)) 8 (vP g8)) := by
   intro g21 g8 w H; rw [hQ]
   refine Y.A [3, 11, 13, 14] rfl ⟨⟨_, rfl, ?_⟩, ⟨_, rfl, ?_⟩, ⟨_, rfl, ?_⟩, ⟨_, rfl, ?_⟩, trivial⟩
   ·refine Y.mk H (sl_run rfl) ?_
    intro g17 w H
    refine OPS.nil ⟨H.rx [3, 4], ?_⟩
    rw [← hQ, uc 8 17, uc 21 17]; exact qd (s23 g17 g21 g8 w (H.rx [0, 1, 2, 3, 4]))
   ·refine Y.mk H (sl_run rfl) ?_
    intro g25 w H
    refine OPS.nil ⟨H.rx [3, 4], ?_⟩
    rw [← hQ, uc 8 25]; exact qd (s32 g21 g25 g8 w (H.rx [1, 0, 2, 3, 4]))
   ·refine Y.al H rfl rfl ?_
    intro g9 w H
    refine OPS.nil ⟨H.rx [3, 4], ?_⟩
    rw [← hQ]; exact qd (s35 g21 g8 g9 w (H.rx [1, 2, 0, 3, 4]))
   ·refine Y.al H rfl rfl ?_
    intro g10 w H
    refine OPS.nil ⟨H.rx [3, 4], ?_⟩
    rw [← hQ]; exact qd (s36 g21 g8 g10 w (H.rx [1, 2, 0, 3, 4]))
  have s14 : ∀ g21 g9 : Nat, DQ Q 7 (bb 18 10231) w0 [] ([nI g21 n, nQ 32 g9 none 0] ++ nO g5 g3 n A B Ap l.length on.length pots.length cap cap2 capp) (upd (upd e0 21 (vS g21 n)) 9 (vP g9)) := by
   intro g21 g9 w H; rw [hQ]
   refine Y.A [3, 11, 12, 14] rfl ⟨⟨_, rfl, ?_⟩, ⟨_, rfl, ?_⟩, ⟨_, rfl, ?_⟩, ⟨_, rfl, ?_⟩, trivial⟩
   ·refine Y.mk H (sl_run rfl) ?_
    intro g17 w H
    refine OPS.nil ⟨H.rx [3, 4], ?_⟩
    rw [← hQ, uc 9 17, uc 21 17]; exact qd (s24 g17 g21 g9 w (H.rx [0, 1, 2, 3, 4]))
   ·refine Y.mk H (sl_run rfl) ?_
    intro g25 w H
    refine OPS.nil ⟨H.rx [3, 4], ?_⟩
    rw [← hQ, uc 9 25]; exact qd (s33 g21 g25 g9 w (H.rx [1, 0, 2, 3, 4]))
   ·refine Y.al H rfl rfl ?_
    intro g8 w H
    refine OPS.nil ⟨H.rx [3, 4], ?_⟩
    rw [← hQ, uc 9 8]; exact qd (s35 g21 g8 g9 w (H.rx [1, 0, 2, 3, 4]))
   ·refine Y.al H rfl rfl ?_
    intro g10 w H
    refine OPS.nil ⟨H.rx [3, 4], ?_⟩
    rw [← hQ]; exact qd (s37 g21 g9 g10 w (H.rx [1, 2, 0, 3, 4]))
  have s15 : ∀ g21 g10 : Nat, DQ Q 7 (bb 18 18423) w0 [] ([nI g21 n, nQ 154 g10 none 0] ++ nO g5 g3 n A B Ap l.length on.length pots.length cap cap2 capp) (upd (upd e0 21 (vS g21 n)) 10 (vP g10)) := by
   intro g21 g10 w H; rw [hQ]
   refine Y.A [3, 11, 12, 13] rfl ⟨⟨_, rfl, ?_⟩, ⟨_, rfl, ?_⟩, ⟨_, rfl, ?_⟩, ⟨_, rfl, ?_⟩, trivial⟩
   ·refine Y.mk H (sl_run rfl) ?_
    intro g17 w H
    refine OPS.nil ⟨H.rx [3, 4], ?_⟩
    rw [← hQ, uc 10 17, uc 21 17]; exact qd (s25 g17 g21 g10 w (H.rx [0, 1, 2, 3, 4]))
   ·refine Y.mk H (sl_run rfl) ?_
    intro g25 w H
    refine OPS.nil ⟨H.rx [3, 4], ?_⟩
    rw [← hQ, uc 10 25]; exact qd (s34 g21 g25 g10 w (H.rx [1, 0, 2, 3, 4]))
   ·refine Y.al H rfl rfl ?_
    intro g8 w H
    refine OPS.nil ⟨H.rx [3, 4], ?_⟩
    rw [← hQ, uc 10 8]; exact qd (s36 g21 g8 g10 w (H.rx [1, 0, 2, 3, 4]))
   ·refine Y.al H rfl rfl ?_
    intro g9 w H
    refine OPS.nil ⟨H.rx [3, 4], ?_⟩
    rw [← hQ, uc 10 9]; exact qd (s37 g21 g9 g10 w (H.rx [1, 0, 2, 3, 4]))
  have s16 : ∀ g25 g8 : Nat, DQ Q 7 (bb 18 8055) w0 [] ([nD g25 n, nQ 175 g8 none 0] ++ nO g5 g3 n A B Ap l.length on.length pots.length cap cap2 capp) (upd (upd e0 25 (vS g25 n)) 8 (vP g8)) := by
   intro g25 g8 w H; rw [hQ]
   refine Y.A [3, 7, 13, 14] rfl ⟨⟨_, rfl, ?_⟩, ⟨_, rfl, ?_⟩, ⟨_, rfl, ?_⟩, ⟨_, rfl, ?_⟩, trivial⟩
   ·refine Y.mk H (sl_run rfl) ?_
    intro g17 w H
    refine OPS.nil ⟨H.rx [3, 4], ?_⟩
    rw [← hQ, uc 8 17, uc 25 17]; exact qd (s26 g17 g25 g8 w (H.rx [0, 1, 2, 3, 4]))
   ·refine Y.mk H (sl_run rfl) ?_
    intro g21 w H
    refine OPS.nil ⟨H.rx [3, 4], ?_⟩
    rw [← hQ, uc 8 21, uc 25 21]; exact qd (s32 g21 g25 g8 w (H.rx [0, 1, 2, 3, 4]))
   ·refine Y.al H rfl rfl ?_
    intro g9 w H
    refine OPS.nil ⟨H.rx [3, 4], ?_⟩
    rw [← hQ]; exact qd (s38 g25 g8 g9 w (H.rx [1, 2, 0, 3, 4]))
   ·refine Y.al H rfl rfl ?_
    intro g10 w H
    refine OPS.nil ⟨H.rx [3, 4], ?_⟩
    rw [← hQ]; exact qd (s39 g25 g8 g10 w (H.rx [1, 2, 0, 3, 4]))
  have s17 : ∀ g25 g9 : Nat, DQ Q 7 (bb 18 12151) w0 [] ([nD g25 n, nQ 32 g9 none 0] ++ nO g5 g3 n A B Ap l.length on.length pots.length cap cap2 capp) (upd (upd e0 25 (vS g25 n)) 9 (vP g9)) := by
   intro g25 g9 w H; rw [hQ]
   refine Y.A [3, 7, 12, 14] rfl ⟨⟨_, rfl, ?_⟩, ⟨_, rfl, ?_⟩, ⟨_, rfl, ?_⟩, ⟨_, rfl, ?_⟩, trivial⟩
   ·refine Y.mk H (sl_run rfl) ?_
    intro g17 w H
    refine OPS.nil ⟨H.rx [3, 4], ?_⟩
    rw [← hQ, uc 9 17, uc 25 17]; exact qd (s27 g17 g25 g9 w (H.rx [0, 1, 2, 3, 4]))
   ·refine Y.mk H (sl_run rfl) ?_
    intro g21 w H
    refine OPS.nil ⟨H.rx [3, 4], ?_⟩
    rw [← hQ, uc 9 21, uc 25 21]; exact qd (s33 g21 g25 g9 w (H.rx [0, 1, 2, 3, 4]))
   ·refine Y.al H rfl rfl ?_
    intro g8 w H
    refine OPS.nil ⟨H.rx [3, 4], ?_⟩
    rw [← hQ, uc 9 8]; exact qd (s38 g25 g8 g9 w (H.rx [1, 0, 2, 3, 4]))
   ·refine Y.al H rfl rfl ?_
    intro g10 w H
    refine OPS.nil ⟨H.rx [3, 4], ?_⟩
    rw [← hQ]; exact qd (s40 g25 g9 g10 w (H.rx [1, 2, 0, 3, 4]))
  have s18 : ∀ g25 g10 : Nat, DQ Q 7 (bb 18 20343) w0 [] ([nD g25 n, nQ 154 g10 none 0] ++ nO g5 g3 n A B Ap l.length on.length pots.length cap cap2 capp) (upd (upd e0 25 (vS g25 n)) 10 (vP g10)) := by
   intro g25 g10 w H; rw [hQ]
   refine Y.A [3, 7, 12, 13] rfl ⟨⟨_, rfl, ?_⟩, ⟨_, rfl, ?_⟩, ⟨_, rfl, ?_⟩, ⟨_, rfl, ?_⟩, trivial⟩
   ·refine Y.mk H (sl_run rfl) ?_
    intro g17 w H
    refine OPS.nil ⟨H.rx [3, 4], ?_⟩
    rw [← hQ, uc 10 17, uc 25 17]; exact qd (s28 g17 g25 g10 w (H.rx [0, 1, 2, 3, 4]))
   ·refine Y.mk H (sl_run rfl) ?_
    intro g21 w H
    refine OPS.nil ⟨H.rx [3, 4], ?_⟩
    rw [← hQ, uc 10 21, uc 25 21]; exact qd (s34 g21 g25 g10 w (H.rx [0, 1, 2, 3, 4]))
   ·refine Y.al H rfl rfl ?_
    intro g8 w H
    refine OPS.nil ⟨H.rx [3, 4], ?_⟩
    rw [← hQ, uc 10 8]; exact qd (s39 g25 g8 g10 w (H.rx [1, 0, 2, 3, 4]))
   ·refine Y.al H rfl rfl ?_
    intro g9 w H
    refine OPS.nil ⟨H.rx [3, 4], ?_⟩
    rw [← hQ, uc 10 9]; exact qd (s40 g25 g9 g10 w (H.rx [1, 0, 2, 3, 4]))
  have s19 : ∀ g8 g9 : Nat, DQ Q 7 (bb 18 14199) w0 [] ([nQ 175 g8 none 0, nQ 32 g9 none 0] ++ nO g5 g3 n A B Ap l.length on.length pots.length cap cap2 capp) (upd (upd e0 8 (vP g8)) 9 (vP g9)) := by
   intro g8 g9 w H; rw [hQ]
   refine Y.A [3, 7, 11, 14] rfl ⟨⟨_, rfl, ?_⟩, ⟨_, rfl, ?_⟩, ⟨_, rfl, ?_⟩, ⟨_, rfl, ?_⟩, trivial⟩
   ·refine Y.mk H (sl_run rfl) ?_
    intro g17 w H
    refine OPS.nil ⟨H.rx [3, 4], ?_⟩
    rw [← hQ, uc 9 17, uc 8 17]; exact qd (s29 g17 g8 g9 w (H.rx [0, 1, 2, 3, 4]))
   ·refine Y.mk H (sl_run rfl) ?_
    intro g21 w H
    refine OPS.nil ⟨H.rx [3, 4], ?_⟩
    rw [← hQ, uc 9 21, uc 8 21]; exact qd (s35 g21 g8 g9 w (H.rx [0, 1, 2, 3, 4]))
   ·refine Y.mk H (sl_run rfl) ?_
    intro g25 w H
    refine OPS.nil ⟨H.rx [3, 4], ?_⟩
    rw [← hQ, uc 9 25, uc 8 25]; exact qd (s38 g25 g8 g9 w (H.rx [0, 1, 2, 3, 4]))
   ·refine Y.al H rfl rfl ?_
    intro g10 w H
    refine OPS.nil ⟨H.rx [3, 4], ?_⟩
    rw [← hQ]; exact qd (s41 g8 g9 g10 w (H.rx [1, 2, 0, 3, 4]))
  have s20 : ∀ g8 g10 : Nat, DQ Q 7 (bb 18 22391) w0 [] ([nQ 175 g8 none 0, nQ 154 g10 none 0] ++ nO g5 g3 n A B Ap l.length on.length pots.length cap cap2 capp) (upd (upd e0 8 (vP g8)) 10 (vP g10)) := by
   intro g8 g10 w H; rw [hQ]
   refine Y.A [3, 7, 11, 13] rfl ⟨⟨_, rfl, ?_⟩, ⟨_, rfl, ?_⟩, ⟨_, rfl, ?_⟩, ⟨_, rfl, ?_⟩, trivial⟩
   ·refine Y.mk H (sl_run rfl) ?_
    intro g17 w H
    refine OPS.nil ⟨H.rx [3, 4], ?_⟩
    rw [← hQ, uc 10 17, uc 8 17]; exact qd (s30 g17 g8 g10 w (H.rx [0, 1, 2, 3, 4]))
   ·refine Y.mk H (sl_run rfl) ?_
    intro g21 w H
    refine OPS.nil ⟨H.rx [3, 4], ?_⟩
    rw [← hQ, uc 10 21, uc 8 21]; exact qd (s36 g21 g8 g10 w (H.rx [0, 1, 2, 3, 4]))
   ·refine Y.mk H (sl_run rfl) ?_
    intro g25 w H
    refine OPS.nil ⟨H.rx [3, 4], ?_⟩
    rw [← hQ, uc 10 25, uc 8 25]; exact qd (s39 g25 g8 g10 w (H.rx [0, 1, 2, 3, 4]))
   ·refine Y.al H rfl rfl ?_
    intro g9 w H
    refine OPS.nil ⟨H.rx [3, 4], ?_⟩
    rw [← hQ, uc 10 9]; exact qd (s41 g8 g9 g10 w (H.rx [1, 0, 2, 3, 4]))
  have s21 : ∀ g9 g10 : Nat, DQ Q 7 (bb 18 26487) w0 [] ([nQ 32 g9 none 0, nQ 154 g10 none 0] ++ nO g5 g3 n A B Ap l.length on.length pots.length cap cap2 capp) (upd (upd e0 9 (vP g9)) 10 (vP g10)) := by
   intro g9 g10 w H; rw [hQ]
   refine Y.A [3, 7, 11, 12] rfl ⟨⟨_, rfl, ?_⟩, ⟨_, rfl, ?_⟩, ⟨_, rfl, ?_⟩, ⟨_, rfl, ?_⟩, trivial⟩
   ·refine Y.mk H (sl_run rfl) ?_
    intro g17 w H
    refine OPS.nil ⟨H.rx [3, 4], ?_⟩
    rw [← hQ, uc 10 17, uc 9 17]; exact qd (s31 g17 g9 g10 w (H.rx [0, 1, 2, 3, 4]))
   ·refine Y.mk H (sl_run rfl) ?_
    intro g21 w H
    refine OPS.nil ⟨H.rx [3, 4], ?_⟩
    rw [← hQ, uc 10 21, uc 9 21]; exact qd (s37 g21 g9 g10 w (H.rx [0, 1, 2, 3, 4]))
   ·refine Y.mk H (sl_run rfl) ?_
    intro g25 w H
    refine OPS.nil ⟨H.rx [3, 4], ?_⟩
    rw [← hQ, uc 10 25, uc 9 25]; exact qd (s40 g25 g9 g10 w (H.rx [0, 1, 2, 3, 4]))
   ·refine Y.al H rfl rfl ?_
    intro g8 w H
    refine OPS.nil ⟨H.rx [3, 4], ?_⟩
    rw [← hQ, uc 10 8, uc 9 8]; exact qd (s41 g8 g9 g10 w (H.rx [0, 1, 2, 3, 4]))
  clear s22 s23 s24 s25 s26 s27 s28 s29 s30 s31 s32 s33 s34 s35 s36 s37 s38 s39 s40 s41
  have s1 : ∀ g17 : Nat, DQ Q 8 (bb 18 1919) w0 [] ([nS g17 n] ++ nO g5 g3 n A B Ap l.length on.length pots.length cap cap2 capp) (upd e0 17 (vS g17 n)) := by
   intro g17 w H; rw [hQ]
   refine Y.A [7, 11, 12, 13, 14] rfl ⟨⟨_, rfl, ?_⟩, ⟨_, rfl, ?_⟩, ⟨_, rfl, ?_⟩, ⟨_, rfl, ?_⟩, ⟨_, rfl, ?_⟩, trivial⟩
   ·refine Y.mk H (sl_run rfl) ?_
    intro g21 w H
    refine OPS.nil ⟨H.rx [2, 3], ?_⟩
    rw [← hQ]; exact qd (s7 g17 g21 w (H.rx [1, 0, 2, 3]))
   ·refine Y.mk H (sl_run rfl) ?_
    intro g25 w H
    refine OPS.nil ⟨H.rx [2, 3], ?_⟩
    rw [← hQ]; exact qd (s8 g17 g25 w (H.rx [1, 0, 2, 3]))
   ·refine Y.al H rfl rfl ?_
    intro g8 w H
    refine OPS.nil ⟨H.rx [2, 3], ?_⟩
    rw [← hQ]; exact qd (s9 g17 g8 w (H.rx [1, 0, 2, 3]))
   ·refine Y.al H rfl rfl ?_
    intro g9 w H
    refine OPS.nil ⟨H.rx [2, 3], ?_⟩
    rw [← hQ]; exact qd (s10 g17 g9 w (H.rx [1, 0, 2, 3]))
   ·refine Y.al H rfl rfl ?_
    intro g10 w H
    refine OPS.nil ⟨H.rx [2, 3], ?_⟩
    rw [← hQ]; exact qd (s11 g17 g10 w (H.rx [1, 0, 2, 3]))
  have s2 : ∀ g21 : Nat, DQ Q 8 (bb 18 2039) w0 [] ([nI g21 n] ++ nO g5 g3 n A B Ap l.length on.length pots.length cap cap2 capp) (upd e0 21 (vS g21 n)) := by
   intro g21 w H; rw [hQ]
   refine Y.A [3, 11, 12, 13, 14] rfl ⟨⟨_, rfl, ?_⟩, ⟨_, rfl, ?_⟩, ⟨_, rfl, ?_⟩, ⟨_, rfl, ?_⟩, ⟨_, rfl, ?_⟩, trivial⟩
   ·refine Y.mk H (sl_run rfl) ?_
    intro g17 w H
    refine OPS.nil ⟨H.rx [2, 3], ?_⟩
    rw [← hQ, uc 21 17]; exact qd (s7 g17 g21 w (H.rx [0, 1, 2, 3]))
   ·refine Y.mk H (sl_run rfl) ?_
    intro g25 w H
    refine OPS.nil ⟨H.rx [2, 3], ?_⟩
    rw [← hQ]; exact qd (s12 g21 g25 w (H.rx [1, 0, 2, 3]))
   ·refine Y.al H rfl rfl ?_
    intro g8 w H
    refine OPS.nil ⟨H.rx [2, 3], ?_⟩
    rw [← hQ]; exact qd (s13 g21 g8 w (H.rx [1, 0, 2, 3]))
   ·refine Y.al H rfl rfl ?_
    intro g9 w H
    refine OPS.nil ⟨H.rx [2, 3], ?_⟩
    rw [← hQ]; exact qd (s14 g21 g9 w (H.rx [1, 0, 2, 3]))
   ·refine Y.al H rfl rfl ?_
    intro g10 w H
    refine OPS.nil ⟨H.rx [2, 3], ?_⟩
    rw [← hQ]; exact qd (s15 g21 g10 w (H.rx [1, 0, 2, 3]))
  have s3 : ∀ g25 : Nat, DQ Q 8 (bb 18 3959) w0 [] ([nD g25 n] ++ nO g5 g3 n A B Ap l.length on.length pots.length cap cap2 capp) (upd e0 25 (vS g25 n)) := by
   intro g25 w H; rw [hQ]
   refine Y.A [3, 7, 12, 13, 14] rfl ⟨⟨_, rfl, ?_⟩, ⟨_, rfl, ?_⟩, ⟨_, rfl, ?_⟩, ⟨_, rfl, ?_⟩, ⟨_, rfl, ?_⟩, trivial⟩
   ·refine Y.mk H (sl_run rfl) ?_
    intro g17 w H
    refine OPS.nil ⟨H.rx [2, 3], ?_⟩
    rw [← hQ, uc 25 17]; exact qd (s8 g17 g25 w (H.rx [0, 1, 2, 3]))
   ·refine Y.mk H (sl_run rfl) ?_
    intro g21 w H
    refine OPS.nil ⟨H.rx [2, 3], ?_⟩
    rw [← hQ, uc 25 21]; exact qd (s12 g21 g25 w (H.rx [0, 1, 2, 3]))
   ·refine Y.al H rfl rfl ?_
    intro g8 w H
    refine OPS.nil ⟨H.rx [2, 3], ?_⟩
    rw [← hQ]; exact qd (s16 g25 g8 w (H.rx [1, 0, 2, 3]))
   ·refine Y.al H rfl rfl ?_
    intro g9 w H
    refine OPS.nil ⟨H.rx [2, 3], ?_⟩
    rw [← hQ]; exact qd (s17 g25 g9 w (H.rx [1, 0, 2, 3]))
   ·refine Y.al H rfl rfl ?_
    intro g10 w H
    refine OPS.nil ⟨H.rx [2, 3], ?_⟩
    rw [← hQ]; exact qd (s18 g25 g10 w (H.rx [1, 0, 2, 3]))
  have s4 : ∀ g8 : Nat, DQ Q 8 (bb 18 6007) w0 [] ([nQ 175 g8 none 0] ++ nO g5 g3 n A B Ap l.length on.length pots.length cap cap2 capp) (upd e0 8 (vP g8)) := by
   intro g8 w H; rw [hQ]
   refine Y.A [3, 7, 11, 13, 14] rfl ⟨⟨_, rfl, ?_⟩, ⟨_, rfl, ?_⟩, ⟨_, rfl, ?_⟩, ⟨_, rfl, ?_⟩, ⟨_, rfl, ?_⟩, trivial⟩
   ·refine Y.mk H (sl_run rfl) ?_
    intro g17 w H
    refine OPS.nil ⟨H.rx [2, 3], ?_⟩
    rw [← hQ, uc 8 17]; exact qd (s9 g17 g8 w (H.rx [0, 1, 2, 3]))
   ·refine Y.mk H (sl_run rfl) ?_
    intro g21 w H
    refine OPS.nil ⟨H.rx [2, 3], ?_⟩
    rw [← hQ, uc 8 21]; exact qd (s13 g21 g8 w (H.rx [0, 1, 2, 3]))
   ·refine Y.mk H (sl_run rfl) ?_
    intro g25 w H
    refine OPS.nil ⟨H.rx [2, 3], ?_⟩
    rw [← hQ, uc 8 25]; exact qd (s16 g25 g8 w (H.rx [0, 1, 2, 3]))
   ·refine Y.al H rfl rfl ?_
    intro g9 w H
    refine OPS.nil ⟨H.rx [2, 3], ?_⟩
    rw [← hQ]; exact qd (s19 g8 g9 w (H.rx [1, 0, 2, 3]))
   ·refine Y.al H rfl rfl ?_
    intro g10 w H
    refine OPS.nil ⟨H.rx [2, 3], ?_⟩
    rw [← hQ]; exact qd (s20 g8 g10 w (H.rx [1, 0, 2, 3]))
  have s5 : ∀ g9 : Nat, DQ Q 8 (bb 18 10103) w0 [] ([nQ 32 g9 none 0] ++ nO g5 g3 n A B Ap l.length on.length pots.length cap cap2 capp) (upd e0 9 (vP g9)) := by
   intro g9 w H; rw [hQ]
   refine Y.A [3, 7, 11, 12, 14] rfl ⟨⟨_, rfl, ?_⟩, ⟨_, rfl, ?_⟩, ⟨_, rfl, ?_⟩, ⟨_, rfl, ?_⟩, ⟨_, rfl, ?_⟩, trivial⟩
   ·refine Y.mk H (sl_run rfl) ?_
    intro g17 w H
    refine OPS.nil ⟨H.rx [2, 3], ?_⟩
    rw [← hQ, uc 9 17]; exact qd (s10 g17 g9 w (H.rx [0, 1, 2, 3]))
   ·refine Y.mk H (sl_run rfl) ?_
    intro g21 w H
    refine OPS.nil ⟨H.rx [2, 3], ?_⟩
    rw [← hQ, uc 9 21]; exact qd (s14 g21 g9 w (H.rx [0, 1, 2, 3]))
   ·refine Y.mk H (sl_run rfl) ?_
    intro g25 w H
    refine OPS.nil ⟨H.rx [2, 3], ?_⟩
    rw [← hQ, uc 9 25]; exact qd (s17 g25 g9 w (H.rx [0, 1, 2, 3]))
   ·refine Y.al H rfl rfl ?_
    intro g8 w H
    refine OPS.nil ⟨H.rx [2, 3], ?_⟩
    rw [← hQ, uc 9 8]; exact qd (s19 g8 g9 w (H.rx [0, 1, 2, 3]))
   ·refine Y.al H rfl rfl ?_
    intro g10 w H
    refine OPS.nil ⟨H.rx [2, 3], ?_⟩
    rw [← hQ]; exact qd (s21 g9 g10 w (H.rx [1, 0, 2, 3]))
  have s6 : ∀ g10 : Nat, DQ Q 8 (bb 18 18295) w0 [] ([nQ 154 g10 none 0] ++ nO g5 g3 n A B Ap l.length on.length pots.length cap cap2 capp) (upd e0 10 (vP g10)) := by
   intro g10 w H; rw [hQ]
   refine Y.A [3, 7, 11, 12, 13] rfl ⟨⟨_, rfl, ?_⟩, ⟨_, rfl, ?_⟩, ⟨_, rfl, ?_⟩, ⟨_, rfl, ?_⟩, ⟨_, rfl, ?_⟩, trivial⟩
   ·refine Y.mk H (sl_run rfl) ?_
    intro g17 w H
    refine OPS.nil ⟨H.rx [2, 3], ?_⟩
    rw [← hQ, uc 10 17]; exact qd (s11 g17 g10 w (H.rx [0, 1, 2, 3]))
   ·refine Y.mk H (sl_run rfl) ?_
    intro g21 w H
    refine OPS.nil ⟨H.rx [2, 3], ?_⟩
    rw [← hQ, uc 10 21]; exact qd (s15 g21 g10 w (H.rx [0, 1, 2, 3]))
   ·refine Y.mk H (sl_run rfl) ?_
    intro g25 w H
    refine OPS.nil ⟨H.rx [2, 3], ?_⟩
    rw [← hQ, uc 10 25]; exact qd (s18 g25 g10 w (H.rx [0, 1, 2, 3]))
   ·refine Y.al H rfl rfl ?_
    intro g8 w H
    refine OPS.nil ⟨H.rx [2, 3], ?_⟩
    rw [← hQ, uc 10 8]; exact qd (s20 g8 g10 w (H.rx [0, 1, 2, 3]))
   ·refine Y.al H rfl rfl ?_
    intro g9 w H
    refine OPS.nil ⟨H.rx [2, 3], ?_⟩
    rw [← hQ, uc 10 9]; exact qd (s21 g9 g10 w (H.rx [0, 1, 2, 3]))
  clear s7 s8 s9 s10 s11 s12 s13 s14 s15 s16 s17 s18 s19 s20 s21
  have s0 : DQ Q 9 (bb 18 1911) w0 [] ([] ++ nO g5 g3 n A B Ap l.length on.length pots.length cap cap2 capp) e0 := by
   intro w H; rw [hQ]
   refine Y.A [3, 7, 11, 12, 13, 14] rfl ⟨⟨_, rfl, ?_⟩, ⟨_, rfl, ?_⟩, ⟨_, rfl, ?_⟩, ⟨_, rfl, ?_⟩, ⟨_, rfl, ?_⟩, ⟨_, rfl, ?_⟩, trivial⟩
   ·refine Y.mk H (sl_run rfl) ?_
    intro g17 w H
    refine OPS.nil ⟨H.rx [1, 2], ?_⟩
    rw [← hQ]; exact qd (s1 g17 w (H.rx [0, 1, 2]))
   ·refine Y.mk H (sl_run rfl) ?_
    intro g21 w H
    refine OPS.nil ⟨H.rx [1, 2], ?_⟩
    rw [← hQ]; exact qd (s2 g21 w (H.rx [0, 1, 2]))
   ·refine Y.mk H (sl_run rfl) ?_
    intro g25 w H
    refine OPS.nil ⟨H.rx [1, 2], ?_⟩
    rw [← hQ]; exact qd (s3 g25 w (H.rx [0, 1, 2]))
   ·refine Y.al H rfl rfl ?_
    intro g8 w H
    refine OPS.nil ⟨H.rx [1, 2], ?_⟩
    rw [← hQ]; exact qd (s4 g8 w (H.rx [0, 1, 2]))
   ·refine Y.al H rfl rfl ?_
    intro g9 w H
    refine OPS.nil ⟨H.rx [1, 2], ?_⟩
    rw [← hQ]; exact qd (s5 g9 w (H.rx [0, 1, 2]))
   ·refine Y.al H rfl rfl ?_
    intro g10 w H
    refine OPS.nil ⟨H.rx [1, 2], ?_⟩
    rw [← hQ]; exact qd (s6 g10 w (H.rx [0, 1, 2]))
  exact s0 w H
 clear H
 rintro u w ⟨gS, gI, gD, g8, g9, g10, h8, h9, h10, H⟩
 refine WP.know (t := 8) h8 (WP.know (t := 9) h9 (WP.know (t := 10) h10 ?_))
 refine Y.qr <| Y.j H 3 rfl rfl rfl <| Y.a rfl <| Y.a rfl <| Y.v (Ev.build (bld_179_0_1_4 rfl rfl rfl)) <| Y.v (Y.X rfl rfl rfl rfl rfl) ?_
 have hpu : putL (mkL n (stepCells default)) (0 + s * 6) (stepCells ⟨s, -1, 0, false, true, 0⟩) = (reachInit n s).flatMap stepCells := by rw [Nat.zero_add, mkL_rows]; exact putL_rows stepCells_len (List.replicate n default) s ⟨s, -1, 0, false, true, 0⟩ (by simpa using hs)
 refine OPS.store (vs := stepCells ⟨s, -1, 0, false, true, 0⟩) 0 _ rfl rfl rfl (size_run rfl) rfl (cA rfl) rfl rfl H rfl (by simp only [mkL_length, stepCells_len]; omega) ?_
 clear H; intro w H
 simp only [List.set_cons_zero, List.set_cons_succ] at H
 rw [hpu] at H
 refine Y.z <| Y.qr <| OPS.call (d := some 31) rfl rfl rfl (EvC.func (fun_run rfl)) (qNew w) ?_
 rintro _ w ⟨gq, rfl, Hc⟩
 refine ⟨_, rfl, ?_⟩
 replace H := SH.call (Lv := []) (by simpa using H) Hc
 clear Hc
 refine Y.al H rfl rfl ?_
 clear H; intro g11 w H
 refine Y.ss 0 H rfl (cP rfl) rfl ?_
 clear H; intro w H
 refine Y.z <| Y.q ?_
 replace H := H.reidx (L' := [⟨g11, 198, [.pointer (some ⟨gq, 0, none⟩)]⟩, ⟨gS, 179, (reachInit n s).flatMap stepCells⟩, ⟨gI, 3, mkL n [I 0]⟩, ⟨gD, 4, mkL n [Bo false]⟩, ⟨g8, 175, [.slice (some ⟨gS, 0, none⟩) n n]⟩, ⟨g9, 32, [.slice (some ⟨gI, 0, none⟩) n n]⟩, ⟨g10, 154, [.slice (some ⟨gD, 0, none⟩) n n]⟩, ⟨g5, 32, [.slice Ap pots.length capp]⟩, ⟨g3, 174, [I n, .slice A l.length cap, .slice B on.length cap2]⟩] ++ qLv gq none 0 [] 0 []) [0, 1, 2, 3, 4, 5, 6, 7, 8, 9] (by decide) rfl
 refine Y.r <| Y.j H 0 rfl rfl rfl <| Y.a rfl <| Y.v (Ev.build (bld_201_0 rfl)) <| OPS.call (d := some 35) rfl rfl rfl (EvC.func (fun_run rfl)) (qPush gq 0 none 0 s 0 [] [] w (qLv gq none 0 [] 0 [] |>.map (·.g)) OwnS.nil HeapOk.nil (by simp) (by omega) (H.restart (List.sublist_append_right _ _))) ?_
 rintro _ w ⟨rfl, Aq, capq, h1, Lo, hpm, hh1, hO1, Hc⟩
 refine ⟨_, rfl, ?_⟩
 obtain rfl : h1 = [⟨s, 0, 0⟩] := List.perm_singleton.1 hpm
 replace H := SH.call (Lv := qLv gq none 0 [] 0 []) H Hc
 clear Hc
 have H2 : SH w0 [] w (⟨g3, 174, [I n, .slice A l.length cap, .slice B on.length cap2]⟩ :: nTail ⟨0, g10, g5, g8, g9, g11, gS, gI, gD, gq⟩ n Ap pots.length capp (List.replicate n false) ⟨reachInit n s, List.replicate n 0, [⟨s, 0, 0⟩], 0 + 1, Aq, capq, Lo⟩) := by
  rw [mkL_ones (enc1 := I) n 0, mkL_ones (enc1 := Bo) n false] at H
  exact H.reidxT (L' := [_, _, _, _, _, _, _, _, _]) [8, 6, 7, 4, 5, 0, 3, 1, 2] (by decide) rfl
 replace H := H2
 clear H2
 refine Y.z <| WP.block <| WP.loop [6, 7, 12, 13, 36, 37, 38, 39, 40, 41, 42, 43, 44, 45, 46, 47, 48, 49, 50, 51, 52, 53, 54, 55, 56] (fun k _ w' => ∃ (st : NSt) (done : List Bool) (rk : Nat → Int) (D : Int) (x : Nat), SH w0 [] w' (⟨g3, 174, [I n, .slice A l.length cap, .slice B on.length cap2]⟩ :: nTail ⟨0, g10, g5, g8, g9, g11, gS, gI, gD, gq⟩ n Ap pots.length capp done st) ∧ NStOk n st ∧ DI (pof pots) l on n s x (fun _ _ => True) st done rk D ∧ 0 ≤ st.p ∧ st.p ≤ 1 + 2000 * ((n : Int) - openN done) ∧ (st.h.length : Int) ≤ st.p ∧ openN done * 2000 + st.h.length ≤ k) (n * 2000 + 1) (⟨_, _, _, _, s, H, ⟨by simp [reachInit], by simp, hO1, hh1⟩, DI.init hs (by show pots.getD (s : Int).toNat 0 ≤ 0; rw [Int.toNat_natCast, hp0]; exact Int.le_refl _), by simp, by simp [openN], by simp, by simp [openN]⟩) ?_
 clear H hO1 hh1
 rintro k u w ⟨st, done, rk, D, x, H, hok, hdi, hp1, hp2, hp3, hk⟩
 unfold nTail at H
 have hdl := hdi.olen
 have hon := openN_le done
 have hhl : st.h.length ≤ 1000000 := by omega
 refine WP.block <| Y.qr <| Y.j H 5 rfl rfl rfl <| OPS.call (d := some 38) rfl rfl rfl (EvC.func (fun_run rfl)) (qPop2 gq st.cap st.A st.p st.h st.Lo w (qLv gq st.A st.cap st.h st.p st.Lo |>.map (·.g)) hok.own hok.heap hhl (H.restart ((List.sublist_append_right _ _).trans (List.sublist_cons_self _ _)))) ?_
 rintro _ w ⟨y, ok, h', Lo', rfl, hno, hyes, hh', hO', Hc⟩
 refine ⟨_, rfl, ?_⟩
 replace H := SH.call (Lv := qLv gq st.A st.cap st.h st.p st.Lo) (L1 := _ :: [_, _, _, _, _, _, _, _]) H Hc
 clear Hc
 refine Y.v (Ev.mvT rfl) <| Y.v (Ev.extract rfl rfl) <| Y.v (Ev.extract rfl rfl) <| Y.al H rfl rfl ?_
 clear H; intro g12 w H
 refine Y.ss 0 H rfl (cA rfl) rfl ?_
 clear H; intro w H
 refine Y.v (Ev.asB rfl) <| Y.z <| Y.q <| Y.qr <| Y.v (Ev.mvB rfl) <| Y.v (Ev.not rfl) <| Y.z ?_
 refine WP.cond rfl (fun hc6 => ?_) (fun hc6 => ?_)
 ·have hok2 : ok = false := by simpa using hc6
  refine Y.q <| WP.rstill mixed (by kernel_rfl) H ?_
  clear H; intro w hbw7 H
  refine Y.j H 4 rfl rfl rfl <| Y.j H 5 rfl rfl rfl <| Y.v (Ev.asS rfl) <| Y.v (Ev.asS rfl) <| OPS.nil_s ?_
  refine WP.ret ⟨_, rfl, ?_⟩
  exact ⟨gS, gI, st.sts, st.dist, rk, rfl, hdi.near (hno hok2).1, H.reidx [8, 9] (by decide) rfl⟩
 have hok2 : ok = true := by simpa using hc6
 obtain ⟨hpm2, hmin⟩ := hyes hok2
 obtain ⟨v, hvn, hyv, hkv, hle⟩ := hdi.ent y (hpm2.subset (List.mem_cons_self ..))
 have hlen2 := hpm2.length_eq
 simp only [List.length_cons] at hlen2
 obtain ⟨yn, yd, yk⟩ := y
 simp only at hyv hle
 subst hyv
 simp only [labCells, putL, List.set_cons_zero, List.set_cons_succ, List.cons_append, List.nil_append] at H
 have hdv : dnB done v = done[v]'(by omega) := by simp [dnB, hdl, hvn]
 refine Y.k <| Y.q <| Y.qr ?_
 obtain ⟨_, _, e1, hdc⟩ := onesOwn H 7 rfl v (by omega)
 cases e1
 refine Y.j H 2 rfl rfl rfl <| Y.fa rfl rfl <| Y.j H 0 rfl rfl rfl <| Y.v (Y.x rfl rfl rfl rfl) <| Y.v (Y.c (by assumption) rfl) ?_
 refine Y.z ?_
 refine WP.cond rfl (fun hc8 => ?_) (fun hc8 => ?_)
 ·have hnext : ∃ g', g' < k ∧ ∃ (st : NSt) (done : List Bool) (rk : Nat → Int) (D : Int) (x : Nat), SH w0 [] w (⟨g3, 174, [I n, .slice A l.length cap, .slice B on.length cap2]⟩ :: nTail ⟨0, g10, g5, g8, g9, g11, gS, gI, gD, gq⟩ n Ap pots.length capp done st) ∧ NStOk n st ∧ DI (pof pots) l on n s x (fun _ _ => True) st done rk D ∧ 0 ≤ st.p ∧ st.p ≤ 1 + 2000 * ((n : Int) - openN done) ∧ (st.h.length : Int) ≤ st.p ∧ openN done * 2000 + st.h.length ≤ g' :=
   ⟨openN done * 2000 + h'.length, by omega, ⟨st.sts, st.dist, h', st.p, st.A, st.cap, Lo'⟩, done, rk, D, x, H.drop (List.sublist_cons_self _ _), ⟨hok.slen, hok.dlen, hO', hh'⟩, hdi.stale hpm2 rfl (by rw [hdv]; exact hc8), hp1, hp2, by show (h'.length : Int) ≤ st.p; omega, Nat.le_refl _⟩
  refine WP.exit <| XB.hit ?_
  exact ⟨Y.ag, hnext⟩
 obtain ⟨hyd, hdi2⟩ := hdi.fresh hpm2 hmin rfl hvn (by rw [hdv]; exact hc8) (A := st.A) (cap := st.cap) (Lo := Lo') (q := st.p)
 simp only at hyd hdi2
 have hopen := openN_set done v (by omega) (by show dnB done v = false; rw [hdv]; exact hc8)
 have hdx : dnB (done.set v true) v = true := by rw [dnB_set (by omega), if_pos rfl]
 have hbdv := hdi2.bd v hvn hdx
 have hrkv := (hdi2.dn v hvn hdx).2.2
 have hnnv := hdi2.nn v hvn hkv
 have hpv : pof pots v = pots[v]'(by omega) := by simp [pof, hpl, hvn]
 have hpv2 := hpb v (by omega)
 simp only at hbdv hrkv hnnv
 refine Y.k <| Y.qr <| Y.j H 2 rfl rfl rfl <| Y.fa rfl rfl <| Y.j H 0 rfl rfl rfl <| Y.v (Y.x rfl rfl rfl rfl) ?_
 have hpu9 : putL (done.map Bo) (0 + v) [Bo true] = (done.set v true).map Bo := by rw [Nat.zero_add]; exact putL_ones done v true
 refine OPS.store (vs := [Bo true]) 7 _ rfl rfl rfl (size_run rfl) rfl (cB rfl) rfl rfl H rfl (by simp only [List.length_map, hdl]; omega) ?_
 clear H; intro w H
 simp only [List.set_cons_zero, List.set_cons_succ] at H
 rw [hpu9] at H
 refine Y.z ?_
 have H2 : SH w0 [] w (⟨g3, 174, [I n, .slice A l.length cap, .slice B on.length cap2]⟩ :: nLv ⟨g12, g10, g5, g8, g9, g11, gS, gI, gD, gq⟩ n v yd Ap pots.length capp (done.set v true) ⟨st.sts, st.dist, h', st.p, st.A, st.cap, Lo'⟩) := H.reidxT (L := [_, _, _, _, _, _, _, _, _, _]) (L' := [_, _, _, _, _, _, _, _, _, _]) [1, 0, 2, 3, 4, 5, 6, 7, 8, 9] (by decide) rfl
 replace H := H2
 clear H2
 refine Y.r <| Y.v (Y.o H 0 rfl rfl) <| Y.v (Ev.makeFunc) ?_
 generalize hst0 : (⟨st.sts, st.dist, h', st.p, st.A, st.cap, Lo'⟩ : NSt) = st0 at H hdi2
 have hni0 : NI (pof pots) l on n s v (fun i _ => i < 0) (done.set v true) (fun u => if u = v then (n : Int) - openN done else rk u) yd (st.p.toNat + 2 * 0) (h'.length + 2 * 0) st0 := by
  subst hst0
  exact ⟨⟨hok.slen, hok.dlen, hO', hh'⟩, hdi2.pr fun _ _ _ _ _ _ _ h => absurd h (by omega), hyd, ⟨hp1, by show st.p ≤ _; omega⟩, by show (h'.length : Int) ≤ st.p; omega, by show h'.length ≤ _; omega⟩
 generalize hrk : (fun u => if u = v then (n : Int) - openN done else rk u) = rk2 at hni0
 have hfr : ∀ g ∈ (nLv ⟨g12, g10, g5, g8, g9, g11, gS, gI, gD, gq⟩ n v yd Ap pots.length capp (done.set v true) st0).map (·.g), w0.heap.size ≤ g := fun g hg => H.fresh g (List.mem_cons_of_mem _ hg)
 have hA := hz.off (fun _ => by simp [arcCells]) hfr
 have hB := ho.off hfr
 have hP := hp.off hfr
 have hpw : IntsAt w Ap pots := hp.sh H
 have hvis : ∀ (i : Nat) (fw : Bool) (a b : Nat) (r cost : Int) (Pr : Nat → Bool → Prop) (mp mh : Nat) (s' : NSt) (w1 : World), NI (pof pots) l on n s v Pr (done.set v true) rk2 yd mp mh s' → REdge (pof pots) l on i fw a b r (cost + pots.getD a 0 - pots.getD b 0) → a < n → b < n → mp ≤ 1000000 → mh ≤ 1000000 → -65536 ≤ cost → cost ≤ 65536 →
   SH w ((nLv ⟨g12, g10, g5, g8, g9, g11, gS, gI, gD, gq⟩ n v yd Ap pots.length capp (done.set v true) st0).map (·.g)) w1 (nLv ⟨g12, g10, g5, g8, g9, g11, gS, gI, gD, gq⟩ n v yd Ap pots.length capp (done.set v true) s') →
   SH w1 ((nLv ⟨g12, g10, g5, g8, g9, g11, gS, gI, gD, gq⟩ n v yd Ap pots.length capp (done.set v true) s').map (·.g)) w1 (nLv ⟨g12, g10, g5, g8, g9, g11, gS, gI, gD, gq⟩ n v yd Ap pots.length capp (done.set v true) s') →
   Calls Tryz.prog 137 ([I a, I b, I i, I r, I cost, .bool fw] ++ [Value.pointer (some ⟨g12, 0, none⟩), Value.pointer (some ⟨g10, 0, none⟩), Value.pointer (some ⟨g5, 0, none⟩), Value.pointer (some ⟨g8, 0, none⟩), Value.pointer (some ⟨g9, 0, none⟩), Value.pointer (some ⟨g11, 0, none⟩)]).toArray w1
    fun e w' => e = .returned (.tuple #[]) ∧ ∃ s'', NI (pof pots) l on n s v (fun j f => Pr j f ∨ (j = i ∧ f = fw)) (done.set v true) rk2 yd (mp + 1) (mh + 1) s'' ∧ SH w1 ((nLv ⟨g12, g10, g5, g8, g9, g11, gS, gI, gD, gq⟩ n v yd Ap pots.length capp (done.set v true) s').map (·.g)) w' (nLv ⟨g12, g10, g5, g8, g9, g11, gS, gI, gD, gq⟩ n v yd Ap pots.length capp (done.set v true) s'') := by
  intro i fw a b r cost Pr mp mh s' w1 hni hE ha hb h1 h2 h3 h4 Hw H1
  have hn1 := hni.p1
  have hn2 := hni.h2
  have hc := nearVisit ⟨g12, g10, g5, g8, g9, g11, gS, gI, gD, gq⟩ n v a b i yd r cost fw Ap capp pots (done.set v true) s' w1 _ hni.ok hpl (by simp [hdl]) ha hb
   (fun k hk => by
    obtain ⟨b', o', q1, q2⟩ := hpw k hk
    exact ⟨b', o', q1, Hw.ldS q2 (hP (List.ne_nil_of_length_pos (by omega)) b' o' q1)⟩)
   (fun k hk => by have := hpb k hk; omega) (by omega) (by omega) (by omega) (by omega) (Off.later hpw hP Hw) (by rw [hpl] at H1; exact H1)
  refine hc.mono fun e w' ⟨he, s'', hV, hok'', H''⟩ => ⟨he, s'', ⟨hok'', ?_, ?_, ?_, ?_, ?_⟩, by rw [hpl]; rw [hpl] at H''; exact H''⟩
  ·exact hni.di.visit hO hE hvn hdx hni.hD hb rfl (by simp [pof]) (by simp [pof]) h4 (by rw [← hni.hD]; exact hV)
  ·rw [hV.dist_x hdx (by rw [hni.ok.dlen]; exact hb)]; exact hni.hD
  ·rcases hV.cnt with ⟨q1, q2⟩ | ⟨q1, q2⟩ <;> omega
  ·have := hni.h1
   rcases hV.cnt with ⟨q1, q2⟩ | ⟨q1, q2⟩ <;> omega
  ·rcases hV.cnt with ⟨q1, q2⟩ | ⟨q1, q2⟩ <;> omega
 have hNF : ∀ (i : Nat) (h : i < l.length), ∃ a b : Nat, a < n ∧ b < n ∧ l[i].f = a ∧ l[i].t = b ∧ (0 ≤ l[i].cap ∧ l[i].cap ≤ 65536) ∧ (0 ≤ l[i].cost ∧ l[i].cost ≤ 65536) := fun i h => by
  obtain ⟨⟨q1, q2⟩, q3, q4⟩ := hN.nodes l[i] (List.getElem_mem h)
  have q5 := hN.caps l[i] (List.getElem_mem h)
  obtain ⟨a, ha⟩ := Int.eq_ofNat_of_zero_le q1
  obtain ⟨b, hb⟩ := Int.eq_ofNat_of_zero_le q3
  exact ⟨a, b, by omega, by omega, ha, hb, q5⟩
 have hpfi : ∀ (i : Nat) (h : i < l.length) (a b : Nat), l[i].f = a → l[i].t = b → rc (pof pots) l[i] = l[i].cost + pots.getD a 0 - pots.getD b 0 := fun i h a b ha hb => by
  unfold rc; rw [ha, hb]; simp [pof]
 have hll := hN.len
 have hmp : st.p.toNat ≤ 200000 := by omega
 have hcall := flowEach2 (fun s' => nLv ⟨g12, g10, g5, g8, g9, g11, gS, gI, gD, gq⟩ n v yd Ap pots.length capp (done.set v true) s') ((nLv ⟨g12, g10, g5, g8, g9, g11, gS, gI, gD, gq⟩ n v yd Ap pots.length capp (done.set v true) st0).map (·.g)) (fun j s' => NI (pof pots) l on n s v (fun i _ => i < j) (done.set v true) rk2 yd (st.p.toNat + 2 * j) (h'.length + 2 * j) s') (fun j s' => NI (pof pots) l on n s v (fun i fw => i < j ∨ (i = j ∧ fw = true)) (done.set v true) rk2 yd (st.p.toNat + 2 * j + 1) (h'.length + 2 * j + 1) s') 137 [.pointer (some ⟨g12, 0, none⟩), .pointer (some ⟨g10, 0, none⟩), .pointer (some ⟨g5, 0, none⟩), .pointer (some ⟨g8, 0, none⟩), .pointer (some ⟨g9, 0, none⟩), .pointer (some ⟨g11, 0, none⟩)] n A B l on cap cap2 st0 w rfl (hz.sh H) hA (ho.sh H) hB hlen (by omega) (fun i h => by obtain ⟨_, _, _, _, _, _, q1, q2⟩ := hNF i h; omega) (fun i h => by have q1 := hV.bd i (by omega) h; obtain ⟨_, _, _, _, _, _, q2, _⟩ := hNF i (by omega); omega) rfl (fun i h h2 s' w1 hni hlt Hw H1 => by
  obtain ⟨a, b, ha, hb, hfa, htb, hca, hco⟩ := hNF i h
  have hE : REdge (pof pots) l on i true a b (l[i].cap - on[i]) (l[i].cost + pots.getD a 0 - pots.getD b 0) := ⟨h, h2, fun _ => ⟨hfa, htb, rfl, hlt, (hpfi i h a b hfa htb).symm⟩, fun q => by cases q⟩
  have hc := hvis i true a b (l[i].cap - on[i]) l[i].cost _ _ _ s' w1 hni hE ha hb (by omega) (by omega) (by omega) (by omega) Hw H1
  rw [hfa, htb]
  exact hc) (fun i h h2 s' hni hlt => hni.skip (fun j fw u v r w hE hp => by
   rcases hp with hp | ⟨rfl, rfl⟩
   ·exact hp
   ·obtain ⟨_, _, q, _⟩ := hE; exact absurd (q rfl).2.2.2.1 hlt) (by omega) (by omega)) (fun i h h2 s' w1 hni hlt Hw H1 => by
  obtain ⟨a, b, ha, hb, hfa, htb, hca, hco⟩ := hNF i h
  have hE : REdge (pof pots) l on i false b a on[i] (-l[i].cost + pots.getD b 0 - pots.getD a 0) := ⟨h, h2, (fun q => by cases q), fun _ => ⟨htb, hfa, rfl, hlt, by have := hpfi i h a b hfa htb; omega⟩⟩
  have hc := hvis i false b a on[i] (-l[i].cost) _ _ _ s' w1 hni hE hb ha (by omega) (by omega) (by omega) (by omega) Hw H1
  rw [hfa, htb]
  refine hc.mono fun e w' ⟨he, s'', hn', H'⟩ => ⟨he, s'', hn'.skip (fun j fw _ _ _ _ _ hp => ?_) (by omega) (by omega), H'⟩
  rcases Nat.lt_succ_iff_lt_or_eq.1 hp with hp | rfl
  ·exact .inl (.inl hp)
  ·cases fw with
   | true => exact .inl (.inr ⟨rfl, rfl⟩)
   | false => exact .inr ⟨rfl, rfl⟩) (fun i h h2 s' hni hlt => hni.skip (fun j fw u v r w hE hp => by
   rcases Nat.lt_succ_iff_lt_or_eq.1 hp with hp | rfl
   ·exact .inl hp
   ·cases fw with
    | true => exact .inr ⟨rfl, rfl⟩
    | false => obtain ⟨_, _, _, q⟩ := hE; exact absurd (q rfl).2.2.2.1 hlt) (by omega) (by omega)) hni0 (H.restart (List.sublist_cons_self _ _))
 refine OPS.call (d := some 56) rfl rfl rfl (EvC.func (fun_run rfl)) (hcall) ?_
 rintro _ w ⟨rfl, st2, hni2, Hc⟩
 refine ⟨_, rfl, ?_⟩
 replace H := SH.call (L1 := [_]) (Lv := nLv ⟨g12, g10, g5, g8, g9, g11, gS, gI, gD, gq⟩ n v yd Ap pots.length capp (done.set v true) st0) H Hc
 clear Hc
 have hnext : ∃ g', g' < k ∧ ∃ (st : NSt) (done : List Bool) (rk : Nat → Int) (D : Int) (x : Nat), SH w0 [] w (⟨g3, 174, [I n, .slice A l.length cap, .slice B on.length cap2]⟩ :: nTail ⟨0, g10, g5, g8, g9, g11, gS, gI, gD, gq⟩ n Ap pots.length capp done st) ∧ NStOk n st ∧ DI (pof pots) l on n s x (fun _ _ => True) st done rk D ∧ 0 ≤ st.p ∧ st.p ≤ 1 + 2000 * ((n : Int) - openN done) ∧ (st.h.length : Int) ≤ st.p ∧ openN done * 2000 + st.h.length ≤ g' := by
  have q1 := hni2.p1
  have q2 := hni2.h1
  have q3 := hni2.h2
  exact ⟨openN (done.set v true) * 2000 + st2.h.length, by omega, st2, done.set v true, rk2, yd, v, H.drop (((List.sublist_cons_self _ _)).cons_cons _), hni2.ok, hni2.di.pr (fun i _ _ _ _ _ hE _ => hE.1), q1.1, by omega, q2, Nat.le_refl _⟩
 refine Y.z ?_
 exact ⟨Y.ag, hnext⟩
end Go.Proofs.YtgcokllbophkkaaGreat.Flo
namespace Go.Proofs.YtgcokllbophkkaaGreat.Flo
open Go Go.W Go.RowKit
theorem costOf_take : ∀ (l : List Arc) (on : List Int) (j : Nat) (h : j < l.length) (h2 : j < on.length), costOf (l.take (j + 1)) (on.take (j + 1)) = costOf (l.take j) (on.take j) + on[j] * l[j].cost
 | [], _, _, h, _ => by simp at h
 | _ :: _, [], _, _, h => by simp at h
 | a :: l, x :: on, 0, _, _ => by simp [costOf]
 | a :: l, x :: on, j + 1, h, h2 => by
  simp only [List.take_succ_cons, costOf, List.getElem_cons_succ]
  have := costOf_take l on j (by simpa using h) (by simpa using h2)
  rw [this]; omega
theorem mul_bd {x c : Int} (h0 : 0 ≤ x) (h1 : x ≤ 65536) (h2 : 0 ≤ c) (h3 : c ≤ 65536) : 0 ≤ x * c ∧ x * c ≤ 4294967296 :=
 ⟨Int.mul_nonneg h0 h2, Int.le_trans (Int.mul_le_mul h1 h3 h2 (by omega)) (by omega)⟩
theorem costOf_bd {n : Nat} {l : List Arc} {on : List Int} (hN : NetOk n l) (hV : VFlow l on) : ∀ j, j ≤ l.length → 0 ≤ costOf (l.take j) (on.take j) ∧ costOf (l.take j) (on.take j) ≤ 4294967296 * j
 | 0, _ => by simp [costOf]
 | j + 1, h => by
  have ih := costOf_bd hN hV j (by omega)
  have hl := hV.len
  have h1 := hV.bd j (by omega) (by omega)
  have h2 := hN.caps l[j] (List.getElem_mem _)
  have h3 := mul_bd h1.1 (by omega) h2.2.1 h2.2.2
  rw [costOf_take l on j (by omega) (by omega)]
  omega
theorem flowPrice (n : Nat) (A B : Option Addr) (l : List Arc) (on : List Int) (cap cap2 : Nat) (w0 : World) (hN : NetOk n l) (hV : VFlow l on) (hz : ArcsAt w0 A l) (ho : IntsAt w0 B on) :
  Calls Tryz.prog 116 #[.agg #[I n, .slice A l.length cap], .slice B on.length cap2] w0 fun e w' => e = .returned (I (costOf l on)) ∧ Below w0.heap.size w0 w' := by
 have H := SH.refl w0
 have hl := hV.len
 have hll := hN.len
 refine Calls.ofWP Tryz.func116 rfl Tryz.results116 Tryz.ntmps116 rfl <| Y.qr <| Y.bx (cA rfl) H ?_
 clear H; intro g2 w H
 refine Y.b rfl <| Y.z <| Y.qr <| Y.b rfl <| Y.z <| Y.q <| Y.qr <| Y.fa rfl rfl <| Y.j H 0 rfl rfl rfl <| Y.v (Y.n rfl) <| Y.a rfl <| Y.z <| WP.block <| WP.loop [5, 6, 7, 11, 12, 13, 14, 15, 16, 17, 18, 19, 20, 21, 22, 23, 24, 25] (fun k e w' => ∃ j : Nat, j + k = l.length ∧ e 11 = I j ∧ e 5 = I (costOf (l.take j) (on.take j)) ∧ SH w0 [] w' [⟨g2, 123, [I n, .slice A l.length cap]⟩]) (l.length) (⟨0, by omega, rfl, rfl, H⟩) ?_
 clear H
 rintro k u w ⟨j, hk, h11, h5, H⟩
 refine WP.know (t := 11) h11 (WP.know (t := 5) h5 ?_)
 refine Y.qr <| Y.v (Ev.lss rfl rfl) <| Y.z <| Y.q ?_
 refine WP.cond rfl (fun hc3 => ?_) (fun hc3 => ?_)
 ·have hlt : j < l.length := by simpa using hc3
  obtain ⟨b, o, rfl, hc⟩ := hz j hlt
  obtain ⟨b2, o2, rfl, hx⟩ := ho j (by omega)
  have hc' := cellsAt_sh H hc
  have h1 := hV.bd j hlt (by omega)
  have h2 := hN.caps l[j] (List.getElem_mem _)
  have h3 := mul_bd h1.1 (by omega) h2.2.1 h2.2.2
  have h4 := costOf_bd hN hV j (by omega)
  refine Y.k <| Y.q <| WP.block <| Y.qr <| Y.a rfl <| Y.v (Y.X rfl rfl rfl rfl rfl) <| Y.v (by (change Ev _ _ _ _ (Op.load 151 (Operand.tmp 14)) _; exact Ev.loadN (arcCells l[j]) (agg_run rfl) (size_run rfl) rfl hc')) <| Y.al H rfl rfl ?_
  clear H; intro g7 w H
  refine Y.b rfl <| Y.ss 0 H rfl (cA rfl) rfl ?_
  clear H; intro w H
  refine Y.z <| WP.rstill mixed (by kernel_rfl) H ?_
  clear H; intro w hbw5 H
  refine Y.a rfl <| Y.v (Ev.mvS rfl) <| Y.a rfl <| Y.v (Y.x rfl rfl rfl rfl) <| Y.v (Y.c (H.ld0 (by assumption)) rfl) ?_
  refine Y.fa rfl rfl <| Y.j H 0 rfl rfl rfl <| Y.v (Ev.mul rfl rfl (by unfold fits; omega)) <| Y.v (Y.p rfl rfl) <| Y.b rfl <| OPS.nil_s <| Y.r <| Y.v (Y.p rfl rfl) <| Y.a rfl <| Y.z ?_
  exact ⟨Y.ag, k - 1, by omega, j + 1, by omega, rfl, by rw [costOf_take l on j hlt (by omega)]; rfl, H.drop (List.sublist_cons_self _ _)⟩
 refine WP.exit <| XB.hit <| Y.qr <| Y.a rfl <| Y.b rfl <| Y.z ?_
 refine WP.ret ⟨_, rfl, ?_⟩
 have hj : j = l.length := by simp at hc3; omega
 subst hj
 rw [List.take_length, ← hl, List.take_length]
 exact ⟨rfl, H.below⟩
end Go.Proofs.YtgcokllbophkkaaGreat.Flo
