/-
  Plain: least ways exist, and rounds of relaxation find them.
-/
import Derived.Test.YthegjmgljolalaaM6
import Derived.Test.YthegjmgljolalaaM7
set_option linter.all false
namespace Go.Proofs.Ythegjmgljolalaa
open Go Go.W

theorem nvis_ex (x : Nat) (xd : Int) (pots : List Int) (done : List Bool) (a b arc : Nat) (room cost : Int) (fwd : Bool) (s : NSt) : ∃ s', NVis x xd pots done a b arc room cost fwd s s' := by
  unfold NVis
  by_cases h : nVisC x xd pots done s a b cost = true
  · exact ⟨⟨s.sts.set b ⟨a, arc, room, fwd, true, 0⟩, s.dist.set b (xd + cost + pots.getD a 0 - pots.getD b 0), s.h ++ [⟨b, xd + cost + pots.getD a 0 - pots.getD b 0, s.p⟩], s.p + 1, none, 0, []⟩, by rw [if_pos h]; exact ⟨rfl, rfl, List.Perm.refl _, rfl⟩⟩
  · exact ⟨s, by rw [if_neg h]; exact ⟨rfl, rfl, rfl, rfl⟩⟩
theorem nvis_len {x : Nat} {xd : Int} {pots : List Int} {done : List Bool} {a b arc : Nat} {room cost : Int} {fwd : Bool} {s s' : NSt} (h : NVis x xd pots done a b arc room cost fwd s s') : s'.h.length ≤ s.h.length + 1 := by
  unfold NVis at h
  split at h
  · have := h.2.2.1.length_eq; simp at this; omega
  · rw [h.2.2.1]; omega
theorem nvis_x {x : Nat} {xd : Int} {pots : List Int} {done : List Bool} {a b arc : Nat} {room cost : Int} {fwd : Bool} {s s' : NSt} (h : NVis x xd pots done a b arc room cost fwd s s') (hx : dnB done x = true) (hb : b < s.dist.length) : dAt s'.dist x = dAt s.dist x := by
  unfold NVis at h
  split at h
  · rename_i hc
    unfold nVisC at hc
    simp only [Bool.and_eq_true, Bool.not_eq_true'] at hc
    have hne : b ≠ x := fun he => by
      have h1 : dnB done b = false := hc.1.2
      rw [he, hx] at h1; cases h1
    rw [h.2.1, dAt_set hb, if_neg hne]
  · rw [h.2.1]
section
variable {pots : List Int} {l : List Arc} {on : List Int} {n s : Nat}
/-- all arcs visited from x -/
theorem all_visited (hn : NodesOk n l) (hc : ∀ a ∈ l, 0 ≤ a.cost ∧ a.cost ≤ 65536) (ho : OptPot (potF pots) l on) (hlen : on.length = l.length) {x : Nat} {done : List Bool} {rk : Nat → Int} {D : Int} (hx : x < n) (hdx : dnB done x = true) :
    ∀ (j : Nat) (st : NSt), DI (potF pots) l on n s x (fun _ _ => False) st done rk D → D = dAt st.dist x → j ≤ l.length → ∃ st', DI (potF pots) l on n s x (fun i _ => i < j) st' done rk D ∧ D = dAt st'.dist x ∧ st'.h.length ≤ st.h.length + 2 * j
  | 0, st, h, hD, _ => ⟨st, h.pr fun _ _ _ _ _ _ _ q => absurd q (by omega), hD, by omega⟩
  | j + 1, st, h, hD, hj => by
    obtain ⟨s1, h1, hD1, hl1⟩ := all_visited hn hc ho hlen hx hdx j st h hD (by omega)
    have hjl : j < l.length := by omega
    obtain ⟨a, b, ha, hb, hfa, htb, e1, e2⟩ := redge_of (on := on) hn hjl (by omega) (potF pots)
    have hcj := hc l[j] (List.getElem_mem hjl)
    have hw : rc (potF pots) l[j] = l[j].cost + pots.getD a 0 - pots.getD b 0 := by unfold rc; rw [hfa, htb]; simp [potF]
    have m1 : ∃ s2, DI (potF pots) l on n s x (fun i f => i < j ∨ (i = j ∧ f = true)) s2 done rk D ∧ D = dAt s2.dist x ∧ s2.h.length ≤ s1.h.length + 1 := by
      by_cases hlt : on[j] < l[j].cap
      · obtain ⟨s2, hV⟩ := nvis_ex x (dAt s1.dist x) pots done a b j (l[j].cap - on[j]) l[j].cost true s1
        exact ⟨s2, h1.visit ho (e1 hlt) hx hdx hD1 hb hw (by simp [potF]) (by simp [potF]) hcj.2 hV, by rw [nvis_x hV hdx (by rw [h1.dlen]; exact hb)]; exact hD1, nvis_len hV⟩
      · exact ⟨s1, h1.pr fun i f u v r w hE hp => by
          rcases hp with hp | ⟨rfl, rfl⟩
          · exact hp
          · obtain ⟨_, _, q, _⟩ := hE; exact absurd (q rfl).2.2.2.1 hlt, hD1, by omega⟩
    obtain ⟨s2, h2, hD2, hl2⟩ := m1
    by_cases hlt : 0 < on[j]
    · obtain ⟨s3, hV⟩ := nvis_ex x (dAt s2.dist x) pots done b a j on[j] (-l[j].cost) false s2
      refine ⟨s3, (h2.visit ho (e2 hlt) hx hdx hD2 ha (by omega) (by simp [potF]) (by simp [potF]) (by omega) hV).pr fun i f u v r w _ hp => ?_, by rw [nvis_x hV hdx (by rw [h2.dlen]; exact ha)]; exact hD2, by have := nvis_len hV; omega⟩
      rcases Nat.lt_succ_iff_lt_or_eq.1 hp with hp | rfl
      · exact .inl (.inl hp)
      · cases f with
        | true => exact .inl (.inr ⟨rfl, rfl⟩)
        | false => exact .inr ⟨rfl, rfl⟩
    · refine ⟨s2, h2.pr fun i f u v r w hE hp => ?_, hD2, by omega⟩
      rcases Nat.lt_succ_iff_lt_or_eq.1 hp with hp | rfl
      · exact .inl hp
      · cases f with
        | true => exact .inr ⟨rfl, rfl⟩
        | false => obtain ⟨_, _, _, q⟩ := hE; exact absurd (q rfl).2.2.2.1 hlt
theorem min_entry : ∀ (h : List Ent), h ≠ [] → ∃ y h', (y :: h').Perm h ∧ ∀ z ∈ h, y.dist ≤ z.dist
  | [], hne => absurd rfl hne
  | [y], _ => ⟨y, [], List.Perm.refl _, fun z hz => by simp at hz; subst hz; exact Int.le_refl _⟩
  | x :: y :: t, _ => by
    obtain ⟨z, h', hp, hm⟩ := min_entry (y :: t) (by simp)
    by_cases hxz : x.dist ≤ z.dist
    · refine ⟨x, y :: t, List.Perm.refl _, fun u hu => ?_⟩
      rcases List.mem_cons.1 hu with rfl | hu
      · exact Int.le_refl _
      · have := hm u hu; omega
    · refine ⟨z, x :: h', (List.Perm.swap x z h').trans (List.Perm.cons x hp), fun u hu => ?_⟩
      rcases List.mem_cons.1 hu with rfl | hu
      · omega
      · exact hm u hu
theorem cnt_arith0 {a b k x y z m : Nat} (hl3 : x ≤ y + 2 * m) (hm : m ≤ 512) (h1 : a + 2000 ≤ b) (h2 : y + 1 = z) (hk : b + z ≤ k + 1) : a + x ≤ k := by
  have h4 : x ≤ y + 1024 := by omega
  have h5 : a + 1024 ≤ b := by omega
  omega
theorem cnt_arith {a b k x y z m : Nat} (hl3 : x ≤ y + 2 * m) (hm : m ≤ 512) (h1 : a < b) (h2 : y + 1 = z) (hk : b * 2000 + z ≤ k + 1) : a * 2000 + x ≤ k :=
  cnt_arith0 hl3 hm (by rw [← Nat.succ_mul]; exact Nat.mul_le_mul_right _ h1) h2 hk
theorem near_of (hn : NodesOk n l) (hll : l.length ≤ 512) (hc : ∀ a ∈ l, 0 ≤ a.cost ∧ a.cost ≤ 65536) (ho : OptPot (potF pots) l on) (hlen : on.length = l.length) :
    ∀ (k : Nat) (st : NSt) (done : List Bool) (rk : Nat → Int) (D : Int) (x : Nat), DI (potF pots) l on n s x (fun _ _ => True) st done rk D → openN done * 2000 + st.h.length ≤ k → ∃ sts dist rk, Near (potF pots) l on n s sts dist rk := by
  intro k
  induction k with
  | zero =>
    intro st done rk D x h hk
    exact ⟨_, _, _, h.near (List.length_eq_zero_iff.1 (by omega))⟩
  | succ k ih =>
    intro st done rk D x h hk
    by_cases he : st.h = []
    · exact ⟨_, _, _, h.near he⟩
    · obtain ⟨y, h', hp, hm⟩ := min_entry st.h he
      have hl := hp.length_eq
      simp only [List.length_cons] at hl
      obtain ⟨v, hv, hyv, _, _⟩ := h.ent y (hp.subset (List.mem_cons_self ..))
      cases hd : dnB done v with
      | true => exact ih _ _ _ _ _ (h.stale hp hyv hd (A := none) (cap := 0) (Lo := []) (q := 0)) (by show openN done * 2000 + h'.length ≤ k; omega)
      | false =>
        obtain ⟨hyd, h2⟩ := h.fresh hp hm hyv hv hd (A := none) (cap := 0) (Lo := []) (q := 0)
        have hvl : v < done.length := by rw [h.olen]; exact hv
        have ho2 := openN_set done v hvl hd
        obtain ⟨st3, h3, _, hl3⟩ := all_visited hn hc ho hlen hv (by rw [dnB_set hvl, if_pos rfl]) l.length _ h2 hyd (Nat.le_refl _)
        have hl3 : st3.h.length ≤ h'.length + 2 * l.length := hl3
        have hk2 : openN (done.set v true) * 2000 + st3.h.length ≤ k := by
          exact cnt_arith hl3 hll ho2 hl hk
        exact ih st3 (done.set v true) _ _ _ (h3.pr fun i _ _ _ _ _ hE _ => hE.1) hk2
theorem near_exists (hn : NodesOk n l) (hll : l.length ≤ 512) (hc : ∀ a ∈ l, 0 ≤ a.cost ∧ a.cost ≤ 65536) (ho : OptPot (potF pots) l on) (hlen : on.length = l.length) (hs : s < n) (hp0 : pots.getD s 0 = 0) : ∃ sts dist rk, Near (potF pots) l on n s sts dist rk :=
  near_of hn hll hc ho hlen (n * 2000 + 1) _ _ _ _ s (DI.init hs (by show pots.getD (s : Int).toNat 0 ≤ 0; rw [Int.toNat_natCast, hp0]; exact Int.le_refl _) (A := none) (cap := 0) (Lo := []) (q := 0)) (by simp [openN])

/-! ### rounds of relaxation -/
abbrev p0 : Int → Int := fun _ => 0
/-- least ways from s: the nodes K that can be reached, their costs D -/
structure SP (l : List Arc) (on : List Int) (n s : Nat) (K : Nat → Bool) (D : Nat → Int) (rk : Nat → Int) : Prop where
  src : K s = true ∧ D s = 0
  clo : ∀ i fw u v r w, REdge p0 l on i fw u v r w → u < n → v < n → K u = true → K v = true ∧ D v ≤ D u + w
  par : ∀ v, v < n → K v = true → v ≠ s → ∃ u i fw r w, u < n ∧ K u = true ∧ REdge p0 l on i fw u v r w ∧ D v = D u + w ∧ rk u < rk v
  rkb : ∀ v, v < n → K v = true → 0 ≤ rk v ∧ rk v ≤ n
  bd : ∀ v, v < n → K v = true → -65536 * (n : Int) ≤ D v ∧ D v ≤ 65536 * n
theorem REdge.cost {p : Int → Int} {i : Nat} {fw : Bool} {u v : Nat} {r w : Int} (h : REdge p l on i fw u v r w) (q : Int → Int) : REdge q l on i fw u v r (w - p u + p v + q u - q v) := by
  obtain ⟨h1, h2, a, b⟩ := h
  refine ⟨h1, h2, fun hf => ?_, fun hf => ?_⟩
  · obtain ⟨g1, g2, g3, g4, g5⟩ := a hf
    refine ⟨g1, g2, g3, g4, ?_⟩
    unfold rc at g5 ⊢; rw [g1, g2] at g5 ⊢; omega
  · obtain ⟨g1, g2, g3, g4, g5⟩ := b hf
    refine ⟨g1, g2, g3, g4, ?_⟩
    unfold rc at g5 ⊢; rw [g1, g2] at g5 ⊢; omega
theorem REdge.toCost {p : Int → Int} {i : Nat} {fw : Bool} {u v : Nat} {r w : Int} (h : REdge p l on i fw u v r w) : REdge p0 l on i fw u v r (w - p u + p v) := by
  have := h.cost p0
  rw [show w - p u + p v + p0 u - p0 v = w - p u + p v by simp [p0]] at this; exact this
theorem REdge.ofCost {p : Int → Int} {i : Nat} {fw : Bool} {u v : Nat} {r w : Int} (h : REdge p0 l on i fw u v r w) : REdge p l on i fw u v r (w + p u - p v) := by
  have := h.cost p
  rw [show w - p0 u + p0 v + p u - p v = w + p u - p v by simp [p0]] at this; exact this
theorem rc_p0 (a : Arc) : rc p0 a = a.cost := by simp [rc, p0]
theorem Near.sp {sts : List Step} {dist : List Int} {rk : Nat → Int} (h : Near (potF pots) l on n s sts dist rk) (hp0 : pots.getD s 0 = 0) (hc : ∀ a ∈ l, 0 ≤ a.cost ∧ a.cost ≤ 65536) : SP l on n s (kn sts) (fun v => dAt dist v + pots.getD v 0) rk := by
  have hpn : ∀ v : Nat, potF pots v = pots.getD v 0 := fun v => by simp [potF]
  have par : ∀ v, v < n → kn sts v = true → v ≠ s → ∃ u i fw r w, u < n ∧ kn sts u = true ∧ REdge p0 l on i fw u v r w ∧ dAt dist v + pots.getD v 0 = dAt dist u + pots.getD u 0 + w ∧ rk u < rk v := fun v hv hk hvs => by
    obtain ⟨u, i, fw, r, w, q1, q2, q3, q4, q5, q6⟩ := h.par v hv hk hvs
    refine ⟨u, i, fw, r, _, q1, q2, q3.toCost, ?_, q6⟩
    rw [hpn, hpn]; omega
  refine ⟨⟨h.src.1, by show dAt dist s + pots.getD s 0 = 0; rw [h.src.2, hp0]; rfl⟩, fun i fw u v r w hE hu hv hk => ?_, par, h.rkb, fun v hv hk => ⟨?_, by have := h.bd v hv hk; rw [hpn] at this; exact this⟩⟩
  · have hE2 := hE.ofCost (p := potF pots)
    obtain ⟨q1, q2⟩ := h.clo i fw u v r _ hE2 hu hv hk
    rw [hpn, hpn] at q2
    exact ⟨q1, by show dAt dist v + _ ≤ dAt dist u + _ + w; omega⟩
  · -- from below: along the tree
    have key : ∀ (m : Nat) (v : Nat), v < n → kn sts v = true → rk v ≤ m → -65536 * (m : Int) ≤ dAt dist v + pots.getD v 0 := by
      intro m
      induction m with
      | zero =>
        intro v hv hk hm
        by_cases hvs : v = s
        · subst hvs; rw [h.src.2, hp0]; simp
        · obtain ⟨u, _, _, _, _, hu, hku, _, _, hr⟩ := par v hv hk hvs
          have := (h.rkb u hu hku).1; omega
      | succ m ih =>
        intro v hv hk hm
        by_cases hvs : v = s
        · subst hvs; rw [h.src.2, hp0]; omega
        · obtain ⟨u, i, fw, r, w, hu, hku, hE, hd, hr⟩ := par v hv hk hvs
          have h1 := ih u hu hku (by omega)
          have hw : -65536 ≤ w := by
            obtain ⟨g1, g2, a, b⟩ := hE
            have hcc := hc l[i] (List.getElem_mem g1)
            cases fw with
            | true => have := (a rfl).2.2.2.2; rw [rc_p0] at this; omega
            | false => have := (b rfl).2.2.2.2; rw [rc_p0] at this; omega
          omega
    exact key n v hv hk (h.rkb v hv hk).2
end
end Go.Proofs.Ythegjmgljolalaa

/-
  Plain: rounds of relaxation.
-/
set_option linter.all false
namespace Go.Proofs.Ythegjmgljolalaa
open Go Go.W

def encS (i : Nat) (fw : Bool) : Int := if fw = true then (i : Int) + 1 else -(i : Int) - 1
def farI : Int := 1099511627776
structure BFI (l : List Arc) (on : List Int) (n s : Nat) (K : Nat → Bool) (D : Nat → Int) (rk : Nat → Int) (r : Int) (Pr : Nat → Bool → Prop) (d stp : List Int) (fin : List Bool) (T : Nat → Int) : Prop where
  dlen : d.length = n
  stlen : stp.length = n
  flen : fin.length = n
  finI : ∀ v, v < n → (dnB fin v = true ↔ (K v = true ∧ dAt d v = D v))
  unk : ∀ v, v < n → K v = false → dAt d v = farI
  lo : ∀ v, v < n → K v = true → D v ≤ dAt d v ∧ dAt d v ≤ farI
  tr : ∀ v, v < n → dnB fin v = true → v ≠ s → ∃ u i fw q w, u < n ∧ dnB fin u = true ∧ REdge p0 l on i fw u v q w ∧ dAt stp v = encS i fw ∧ D v = D u + w ∧ T u < T v
  tb : ∀ v, v < n → dnB fin v = true → 0 ≤ T v ∧ T v < (n : Int) - openN fin
  rnd : ∀ v, v < n → K v = true → rk v ≤ r → dnB fin v = true
  sf : dnB fin s = true
  pr : ∀ i fw u v q w, REdge p0 l on i fw u v q w → Pr i fw → u < n → v < n → K u = true → rk u ≤ r → dAt d v ≤ D u + w
section
variable {l : List Arc} {on : List Int} {n s : Nat} {K : Nat → Bool} {D : Nat → Int} {rk : Nat → Int} {r : Int} {Pr : Nat → Bool → Prop} {d stp : List Int} {fin : List Bool} {T : Nat → Int}
theorem BFI.mono (h : BFI l on n s K D rk r Pr d stp fin T) {Pr' : Nat → Bool → Prop} (hp : ∀ i fw u v q w, REdge p0 l on i fw u v q w → Pr' i fw → Pr i fw) : BFI l on n s K D rk r Pr' d stp fin T :=
  { h with pr := fun i fw u v q w hE hp' => h.pr i fw u v q w hE (hp i fw u v q w hE hp') }
theorem BFI.init (hS : SP l on n s K D rk) (hn : n ≤ 64) (hs : s < n) : BFI l on n s K D rk 0 (fun _ _ => False) ((List.replicate n farI).set s 0) (List.replicate n 0) ((List.replicate n false).set s true) (fun _ => 0) := by
  have hd : ∀ v, v < n → dAt ((List.replicate n farI).set s 0) v = if s = v then 0 else farI := fun v hv => by rw [dAt_set (by simpa using hs)]; simp [dAt, hv]
  have hf : ∀ v, v < n → dnB ((List.replicate n false).set s true) v = if s = v then true else false := fun v hv => by rw [dnB_set (by simpa using hs)]; simp [dnB, hv]
  have hfs : ∀ v, v < n → dnB ((List.replicate n false).set s true) v = true → v = s := fun v hv h => by
    rw [hf v hv] at h; split at h
    · rename_i e; exact e.symm
    · cases h
  have ho := openN_set (List.replicate n false) s (by simpa using hs) (by simp [hs])
  have ho2 : openN (List.replicate n false) = n := by simp [openN]
  refine ⟨by simp, by simp, by simp, fun v hv => ?_, fun v hv hk => ?_, fun v hv hk => ?_, fun v hv h hvs => absurd (hfs v hv h) hvs, fun v hv h => by constructor <;> omega, fun v hv hk hr => ?_, by rw [hf s hs, if_pos rfl], fun i fw u v q w _ hp => hp.elim⟩
  · rw [hf v hv, hd v hv]
    by_cases h : s = v
    · subst h; simp [hS.src.1, hS.src.2]
    · simp only [if_neg h]
      constructor
      · intro q; cases q
      · rintro ⟨q1, q2⟩
        have := (hS.bd v hv q1).2
        unfold farI at q2; omega
  · rw [hd v hv, if_neg (fun h => by subst h; rw [hS.src.1] at hk; cases hk)]
  · have := hS.bd v hv hk
    rw [hd v hv]
    split
    · rename_i h; subst h; rw [hS.src.2]; unfold farI; omega
    · unfold farI; omega
  · by_cases h : v = s
    · subst h; rw [hf v hv, if_pos rfl]
    · obtain ⟨u, _, _, _, _, hu, hku, _, _, hlt⟩ := hS.par v hv hk h
      have := (hS.rkb u hu hku).1; omega
/-- one relaxation -/
theorem BFI.relax (h : BFI l on n s K D rk r Pr d stp fin T) (hS : SP l on n s K D rk) (hn : n ≤ 64) {i : Nat} {fw : Bool} {u v : Nat} {q w : Int} (hE : REdge p0 l on i fw u v q w) (hu : u < n) (hv : v < n) (h1 : dAt d u < farI) (h2 : dAt d u + w < dAt d v) :
    ∃ fin' T', BFI l on n s K D rk r (fun j f => Pr j f ∨ (j = i ∧ f = fw)) (d.set v (dAt d u + w)) (stp.set v (encS i fw)) fin' T' := by
  have hku : K u = true := by
    cases hk : K u with
    | true => rfl
    | false => have := h.unk u hu hk; omega
  obtain ⟨hkv, hdv⟩ := hS.clo i fw u v q w hE hu hv hku
  have hlu := h.lo u hu hku
  have hlv := h.lo v hv hkv
  have huv : u ≠ v := fun he => by subst he; omega
  have hvl : v < d.length := by rw [h.dlen]; exact hv
  have hvs : v < stp.length := by rw [h.stlen]; exact hv
  have hvf : v < fin.length := by rw [h.flen]; exact hv
  have hnf : dnB fin v = false := by
    cases hf : dnB fin v with
    | false => rfl
    | true => have := ((h.finI v hv).1 hf).2; omega
  have hvne : v ≠ s := fun he => by rw [he, h.sf] at hnf; cases hnf
  have d1 : ∀ x, x ≠ v → dAt (d.set v (dAt d u + w)) x = dAt d x := fun x hx => by rw [dAt_set hvl, if_neg (Ne.symm hx)]
  have d2 : dAt (d.set v (dAt d u + w)) v = dAt d u + w := by rw [dAt_set hvl, if_pos rfl]
  have s1 : ∀ x, x ≠ v → dAt (stp.set v (encS i fw)) x = dAt stp x := fun x hx => by rw [dAt_set hvs, if_neg (Ne.symm hx)]
  have s2 : dAt (stp.set v (encS i fw)) v = encS i fw := by rw [dAt_set hvs, if_pos rfl]
  have hfne : ∀ x, dnB fin x = true → x ≠ v := fun x hx he => by rw [he, hnf] at hx; cases hx
  have hunk : ∀ x, x < n → K x = false → dAt (d.set v (dAt d u + w)) x = farI := fun x hx hk => by
    rw [d1 x (fun he => by rw [he, hkv] at hk; cases hk)]; exact h.unk x hx hk
  have hlo : ∀ x, x < n → K x = true → D x ≤ dAt (d.set v (dAt d u + w)) x ∧ dAt (d.set v (dAt d u + w)) x ≤ farI := fun x hx hk => by
    by_cases he : x = v
    · subst he; rw [d2]; omega
    · rw [d1 x he]; exact h.lo x hx hk
  have hpr : ∀ j f a b q' w', REdge p0 l on j f a b q' w' → (Pr j f ∨ (j = i ∧ f = fw)) → a < n → b < n → K a = true → rk a ≤ r → dAt (d.set v (dAt d u + w)) b ≤ D a + w' := fun j f a b q' w' hE' hp ha hb hka hra => by
    rcases hp with hp | ⟨rfl, rfl⟩
    · have := h.pr j f a b q' w' hE' hp ha hb hka hra
      by_cases he : b = v
      · subst he; rw [d2]; omega
      · rw [d1 b he]; exact this
    · obtain ⟨g1, g2, g3⟩ := hE'.same hE
      subst g1 g2 g3
      have := ((h.finI a ha).1 (h.rnd a ha hka hra)).2
      rw [d2]; omega
  by_cases hfin : dAt d u + w = D v
  · have hdu : dAt d u = D u := by omega
    have hfu : dnB fin u = true := (h.finI u hu).2 ⟨hku, hdu⟩
    have hop := openN_set fin v hvf hnf
    have f1 : ∀ x, x ≠ v → dnB (fin.set v true) x = dnB fin x := fun x hx => by rw [dnB_set hvf, if_neg (Ne.symm hx)]
    have f2 : dnB (fin.set v true) v = true := by rw [dnB_set hvf, if_pos rfl]
    have f3 : ∀ x, dnB fin x = true → dnB (fin.set v true) x = true := fun x hx => by rw [f1 x (hfne x hx)]; exact hx
    refine ⟨fin.set v true, fun x => if x = v then (n : Int) - openN fin else T x, ⟨by simp [h.dlen], by simp [h.stlen], by simp [h.flen], fun x hx => ?_, hunk, hlo, fun x hx hf hxs => ?_, fun x hx hf => ?_, fun x hx hk hr => f3 x (h.rnd x hx hk hr), f3 s h.sf, hpr⟩⟩
    · by_cases he : x = v
      · subst he; rw [f2, d2]; simp [hkv, hfin]
      · rw [f1 x he, d1 x he]; exact h.finI x hx
    · by_cases he : x = v
      · subst he
        exact ⟨u, i, fw, q, w, hu, f3 u hfu, hE, s2, by omega, by simp only [if_neg (hfne u hfu), if_true]; exact (h.tb u hu hfu).2⟩
      · rw [f1 x he] at hf
        obtain ⟨a, j, f, q', w', a1, a2, a3, a4, a5, a6⟩ := h.tr x hx hf hxs
        exact ⟨a, j, f, q', w', a1, f3 a a2, a3, by rw [s1 x he]; exact a4, a5, by simp only [if_neg he, if_neg (hfne a a2)]; exact a6⟩
    · by_cases he : x = v
      · subst he
        have := openN_le fin; rw [h.flen] at this
        simp only [if_true]; omega
      · rw [f1 x he] at hf
        have := h.tb x hx hf
        simp only [if_neg he]; omega
  · refine ⟨fin, T, ⟨by simp [h.dlen], by simp [h.stlen], h.flen, fun x hx => ?_, hunk, hlo, fun x hx hf hxs => ?_, h.tb, h.rnd, h.sf, hpr⟩⟩
    · by_cases he : x = v
      · subst he; rw [hnf, d2]
        constructor
        · intro q; cases q
        · rintro ⟨_, q⟩; exact absurd q hfin
      · rw [d1 x he]; exact h.finI x hx
    · obtain ⟨a, j, f, q', w', a1, a2, a3, a4, a5, a6⟩ := h.tr x hx hf hxs
      exact ⟨a, j, f, q', w', a1, a2, a3, by rw [s1 x (hfne x hf)]; exact a4, a5, a6⟩
/-- an arc that cannot be relaxed -/
theorem BFI.keep (h : BFI l on n s K D rk r Pr d stp fin T) (hn : n ≤ 64) (hS : SP l on n s K D rk) {i : Nat} {fw : Bool} {u v : Nat} {q w : Int} (hE : REdge p0 l on i fw u v q w) (hno : ¬ (dAt d u < farI ∧ dAt d u + w < dAt d v)) :
    BFI l on n s K D rk r (fun j f => Pr j f ∨ (j = i ∧ f = fw)) d stp fin T :=
  { h with pr := fun j f a b q' w' hE' hp ha hb hka hra => by
                  rcases hp with hp | ⟨rfl, rfl⟩
                  · exact h.pr j f a b q' w' hE' hp ha hb hka hra
                  · obtain ⟨g1, g2, g3⟩ := hE'.same hE
                    subst g1 g2 g3
                    have h1 := ((h.finI a ha).1 (h.rnd a ha hka hra)).2
                    have h2 := hS.bd a ha hka
                    have h3 : dAt d a < farI := by unfold farI; omega
                    have h4 : ¬ (dAt d a + w' < dAt d b) := fun q => hno ⟨h3, q⟩
                    omega }
/-- a round is over -/
theorem BFI.round (h : BFI l on n s K D rk r (fun i _ => i < l.length) d stp fin T) (hS : SP l on n s K D rk) : BFI l on n s K D rk (r + 1) (fun i _ => i < 0) d stp fin T :=
  { h with
    rnd := fun v hv hk hr => by
      by_cases hvs : v = s
      · subst hvs; exact h.sf
      · obtain ⟨u, i, fw, q, w, hu, hku, hE, hD, hlt⟩ := hS.par v hv hk hvs
        have h1 := h.pr i fw u v q w hE hE.1 hu hv hku (by omega)
        have h2 := h.lo v hv hk
        exact (h.finI v hv).2 ⟨hk, by omega⟩
    pr := fun i fw u v q w _ hp => absurd hp (by omega) }
/-- what the rounds give -/
structure CR (l : List Arc) (on : List Int) (n s : Nat) (K : Nat → Bool) (D : Nat → Int) (T : Nat → Int) (d stp : List Int) : Prop where
  sp : ∃ rk, SP l on n s K D rk
  dlen : d.length = n
  stlen : stp.length = n
  kd : ∀ v, v < n → K v = true → dAt d v = D v ∧ D v < farI
  unk : ∀ v, v < n → K v = false → dAt d v = farI
  tr : ∀ v, v < n → K v = true → v ≠ s → ∃ u i fw q w, u < n ∧ K u = true ∧ REdge p0 l on i fw u v q w ∧ dAt stp v = encS i fw ∧ D v = D u + w ∧ T u < T v
  tb : ∀ v, v < n → K v = true → 0 ≤ T v ∧ T v ≤ n
theorem BFI.done (h : BFI l on n s K D rk r Pr d stp fin T) (hS : SP l on n s K D rk) (hn : n ≤ 64) (hr : r = n) : CR l on n s K D T d stp := by
  have hf : ∀ v, v < n → K v = true → dnB fin v = true := fun v hv hk => h.rnd v hv hk (by have := (hS.rkb v hv hk).2; omega)
  refine ⟨⟨rk, hS⟩, h.dlen, h.stlen, fun v hv hk => ⟨((h.finI v hv).1 (hf v hv hk)).2, by have := (hS.bd v hv hk).2; unfold farI; omega⟩, h.unk, fun v hv hk hvs => ?_, fun v hv hk => by have := h.tb v hv (hf v hv hk); omega⟩
  obtain ⟨u, i, fw, q, w, a1, a2, a3, a4, a5, a6⟩ := h.tr v hv (hf v hv hk) hvs
  exact ⟨u, i, fw, q, w, a1, ((h.finI u a1).1 a2).1, a3, a4, a5, a6⟩
end
end Go.Proofs.Ythegjmgljolalaa

/-
  Plain: ways by steps of the reference, and what a push along one does.
-/
set_option linter.all false
namespace Go.Proofs.Ythegjmgljolalaa
open Go Go.W

/-- a step of the reference, as a step -/
def rstep (l : List Arc) (on : List Int) (k : Int) : Step :=
  if 0 < k then ⟨(l.getD (k - 1).toNat default).f, ((k - 1).toNat : Nat), (l.getD (k - 1).toNat default).cap - on.getD (k - 1).toNat 0, true, true, 0⟩
  else ⟨(l.getD (-k - 1).toNat default).t, ((-k - 1).toNat : Nat), on.getD (-k - 1).toNat 0, false, true, 0⟩
theorem rstep_enc {l : List Arc} {on : List Int} {i : Nat} {fw : Bool} {u v : Nat} {q w : Int} (h : REdge p0 l on i fw u v q w) : rstep l on (encS i fw) = ⟨u, i, q, fw, true, 0⟩ := by
  obtain ⟨h1, h2, a, b⟩ := h
  cases fw with
  | true =>
    obtain ⟨g1, g2, g3, _⟩ := a rfl
    have e : encS i true = (i : Int) + 1 := rfl
    rw [e]
    unfold rstep
    rw [if_pos (by omega), show ((i : Int) + 1 - 1).toNat = i by omega]
    simp [h1, h2, g1, g3]
  | false =>
    obtain ⟨g1, g2, g3, _⟩ := b rfl
    have e : encS i false = -(i : Int) - 1 := rfl
    rw [e]
    unfold rstep
    rw [if_neg (by omega), show (-(-(i : Int) - 1) - 1).toNat = i by omega]
    simp [h1, h2, g1, g3]
def RPath (l : List Arc) (on stp : List Int) (n s : Nat) : List Nat → Nat → Prop
  | [], k => k = s
  | x :: xs, k => k = x ∧ k ≠ s ∧ k < n ∧ ∃ (p i : Nat) (fw : Bool) (q w : Int), p < n ∧ REdge p0 l on i fw p k q w ∧ dAt stp k = encS i fw ∧ RPath l on stp n s xs p
theorem sts_at {l : List Arc} {on stp : List Int} {v : Nat} (h : v < stp.length) : (stp.map (rstep l on)).getD v default = rstep l on (dAt stp v) := by
  simp [dAt, h]
section
variable {l : List Arc} {on : List Int} {n s t : Nat} {K : Nat → Bool} {D : Nat → Int} {T : Nat → Int} {d stp : List Int}
theorem CR.path (h : CR l on n s K D T d stp) : ∀ (m : Nat) (v : Nat), v < n → K v = true → T v ≤ m → ∃ ks, ks.length ≤ m ∧ RPath l on stp n s ks v ∧ Path T l on n s (stp.map (rstep l on)) ks v ∧ ∀ x ∈ ks, x < n ∧ K x = true ∧ x ≠ s
  | 0, v, hv, hk, hm => by
    by_cases hvs : v = s
    · exact ⟨[], by simp, hvs, hvs, fun x hx => by cases hx⟩
    · obtain ⟨p, _, _, _, _, hp, hkp, _, _, _, hdp⟩ := h.tr v hv hk hvs
      have := (h.tb p hp hkp).1; omega
  | m + 1, v, hv, hk, hm => by
    by_cases hvs : v = s
    · exact ⟨[], by simp, hvs, hvs, fun x hx => by cases hx⟩
    · obtain ⟨p, i, fw, q, w, hp, hkp, hE, hst, _, hdp⟩ := h.tr v hv hk hvs
      obtain ⟨ks, hl, hR, hP, ha⟩ := CR.path h m p hp hkp (by omega)
      refine ⟨v :: ks, by simp; omega, ⟨rfl, hvs, hv, p, i, fw, q, w, hp, hE, hst, hR⟩, ⟨rfl, hvs, hv, p, hp, hdp, ?_, hP⟩, fun x hx => ?_⟩
      · rw [sts_at (by rw [h.stlen]; exact hv), hst, rstep_enc hE]; exact hE.edge
      · rcases List.mem_cons.1 hx with rfl | hx
        · exact ⟨hv, hk, hvs⟩
        · exact ha x hx
def natF (D : Nat → Int) : Int → Int := fun u => D u.toNat
/-- the arcs of the way are tight -/
theorem CR.tight (h : CR l on n s K D T d stp) {ks : List Nat} (hks : ∀ x ∈ ks, x < n ∧ K x = true ∧ x ≠ s) {x : Nat} (hx : x ∈ ks) {i : Nat} (hi : i < l.length) (he : ((stp.map (rstep l on)).getD x default).arc.toNat = i) :
    ∃ (a b : Nat), a < n ∧ b < n ∧ K a = true ∧ K b = true ∧ l[i].f = a ∧ l[i].t = b ∧ l[i].cost + D a - D b = 0 := by
  obtain ⟨h1, h2, h3⟩ := hks x hx
  obtain ⟨u, j, fw, q, w, hu, hku, hE, hst, hD, _⟩ := h.tr x h1 h2 h3
  rw [sts_at (by rw [h.stlen]; exact h1), hst, rstep_enc hE] at he
  have hij : j = i := by simpa using he
  subst hij
  obtain ⟨_, _, a, b⟩ := hE
  cases fw with
  | true =>
    obtain ⟨g1, g2, _, _, g5⟩ := a rfl
    rw [rc_p0] at g5
    exact ⟨u, x, hu, h1, hku, h2, g1, g2, by omega⟩
  | false =>
    obtain ⟨g1, g2, _, _, g5⟩ := b rfl
    rw [rc_p0] at g5
    exact ⟨x, u, h1, hu, h2, hku, g2, g1, by omega⟩
theorem CR.push_cost (h : CR l on n s K D T d stp) (hV : VFlow l on) {ks : List Nat} (hP : Path T l on n s (stp.map (rstep l on)) ks t) (hks : ∀ x ∈ ks, x < n ∧ K x = true ∧ x ≠ s) {M : Int} (hM : 0 ≤ M) (hr : ∀ x ∈ ks, M ≤ ((stp.map (rstep l on)).getD x default).room) :
    costOf l (pushOn (stp.map (rstep l on)) ks M on) = costOf l on + M * D t := by
  obtain ⟨hV2, hno⟩ := push_flow hM (natF D) ks t on hP hr hV fun _ _ => rfl
  have hlin : lin (rc (natF D)) l (pushOn (stp.map (rstep l on)) ks M on) = lin (rc (natF D)) l on := lin_congr _ l on _ hV.len hV2.len fun i h1 h2 h3 => by
    rcases pushOn_at (stp.map (rstep l on)) M i ks on with he | ⟨x, hx, he⟩
    · refine .inl ?_
      rw [List.getD_eq_getElem?_getD, List.getD_eq_getElem?_getD, List.getElem?_eq_getElem h3, List.getElem?_eq_getElem h2] at he
      simpa using he
    · obtain ⟨a, b, _, _, _, _, hf, ht, hc⟩ := h.tight hks hx h1 he
      refine .inr ?_
      unfold rc natF
      rw [hf, ht]; simpa using hc
  rw [lin_rc, lin_rc, hno] at hlin
  obtain ⟨_, hS⟩ := h.sp
  have e1 : natF D (s : Int) = 0 := by unfold natF; simpa using hS.src.2
  have e2 : natF D (t : Int) = D t := by unfold natF; simp
  rw [e1, e2, Int.zero_sub, Int.mul_neg] at hlin
  omega
theorem CR.push_opt {pots : List Int} {sts : List Step} {dist : List Int} {rk : Nat → Int} (hnr : Near (potF pots) l on n s sts dist rk) (h : CR l on n s (kn sts) (fun v => dAt dist v + pots.getD v 0) T d stp) (ho : OptPot (potF pots) l on) (hn : NodesOk n l) (hl : pots.length = n)
    (hlen : on.length = l.length) {ks : List Nat} (hks : ∀ x ∈ ks, x < n ∧ kn sts x = true ∧ x ≠ s) (M : Int) : OptPot (potF (newL sts dist (farTo sts dist n) pots)) l (pushOn (stp.map (rstep l on)) ks M on) := by
  intro i h1 h2
  have h2' : i < on.length := by rw [pushOn_length] at h2; exact h2
  rcases pushOn_at (stp.map (rstep l on)) M i ks on with he | ⟨x, hx, he⟩
  · have e : (pushOn (stp.map (rstep l on)) ks M on)[i] = on[i] := by
      rw [List.getD_eq_getElem?_getD, List.getD_eq_getElem?_getD, List.getElem?_eq_getElem h2, List.getElem?_eq_getElem h2'] at he
      simpa using he
    rw [e]
    exact near_opt hnr ho hn hl (farTo_spec sts dist n).2.1 i h1 h2'
  · obtain ⟨a, b, ha, hb, hka, hkb, hf, ht, hc⟩ := h.tight hks hx h1 he
    have e1 := newL_at (sts := sts) (dist := dist) (F := farTo sts dist n) (show a < pots.length by omega)
    have e2 := newL_at (sts := sts) (dist := dist) (F := farTo sts dist n) (show b < pots.length by omega)
    rw [if_pos hka] at e1
    rw [if_pos hkb] at e2
    have : rc (potF (newL sts dist (farTo sts dist n) pots)) l[i] = 0 := by
      unfold rc
      rw [hf, ht]
      simp only [potF, Int.toNat_natCast]
      rw [e1, e2]
      have hc : l[i].cost + (dAt dist a + pots.getD a 0) - (dAt dist b + pots.getD b 0) = 0 := hc
      omega
    rw [this]
    exact ⟨fun _ => Int.le_refl _, fun _ => Int.le_refl _⟩
/-- the nodes reached -/
theorem CR.resSet (h : CR l on n s K D T d stp) (hn : NodesOk n l) (hlen : on.length = l.length) (hs : s < n) : ResSet l on n s K := by
  obtain ⟨rk, hS⟩ := h.sp
  refine ⟨hS.src.1, fun i h1 h2 => ?_, fun S hSs hc v hv hk => ?_⟩
  · obtain ⟨a, b, ha, hb, hfa, htb, e1, e2⟩ := redge_of (on := on) hn h1 h2 p0
    rw [hfa, htb]
    simp only [Int.toNat_natCast]
    exact ⟨fun hc hk => (hS.clo _ _ _ _ _ _ (e1 hc) ha hb hk).1, fun hc hk => (hS.clo _ _ _ _ _ _ (e2 hc) hb ha hk).1⟩
  · have key : ∀ (m : Nat) (v : Nat), v < n → K v = true → rk v ≤ m → S v = true := by
      intro m
      induction m with
      | zero =>
        intro v hv hk hm
        by_cases hvs : v = s
        · rw [hvs]; exact hSs
        · obtain ⟨p, _, _, _, _, hp, hkp, _, _, hdp⟩ := hS.par v hv hk hvs
          have := (hS.rkb p hp hkp).1; omega
      | succ m ih =>
        intro v hv hk hm
        by_cases hvs : v = s
        · rw [hvs]; exact hSs
        · obtain ⟨p, i, fw, q, w, hp, hkp, hE, _, hdp⟩ := hS.par v hv hk hvs
          have hpS := ih p hp hkp (by omega)
          obtain ⟨g1, g2, a, b⟩ := hE
          obtain ⟨c1, c2⟩ := hc i g1 g2
          cases fw with
          | true =>
            obtain ⟨k1, k2, _, k4, _⟩ := a rfl
            rw [k1, k2] at c1
            exact c1 k4 (by simpa using hpS)
          | false =>
            obtain ⟨k1, k2, _, k4, _⟩ := b rfl
            rw [k1, k2] at c2
            exact c2 k4 (by simpa using hpS)
    exact key n v hv hk (hS.rkb v hv hk).2
theorem res_isMax (hn : NodesOk n l) (hs : s < n) {amt : Int} (hf : IsFlow n l s t on amt) (hR : ResSet l on n s K) (ht : K t = false) : IsMax n l s t amt :=
  ⟨⟨on, hf⟩, fun u => K u.toNat, by simpa using hR.src, by simpa using ht, closed_cut hn hs hf hR.src ht hR.clo⟩
end
/-- a flow that is at least as great as any can be is greatest -/
theorem full_isMax {n s t : Nat} {l : List Arc} {on : List Int} {amt : Int} (hn : NodesOk n l) (hs : s < n) (ht : t < n) (hst : s ≠ t) (hf : IsFlow n l s t on amt) (hle : ∀ on' amt', IsFlow n l s t on' amt' → amt' ≤ amt) : IsMax n l s t amt := by
  have hsp := reachFin_spec (s := s) (on := on) hn hf.v.len hs
  cases hk : kn (reachFin l on n s) t with
  | false => exact reached_isMax hn hs hsp hf hk
  | true =>
    obtain ⟨ks, _, hP⟩ := path_of hsp.tree n t ht hk (hsp.pos t ht hk).2
    obtain ⟨m1, m2, m3⟩ := pushMin_spec (reachFin l on n s) ks 1 (by omega) fun x hx => by obtain ⟨p, _, hE⟩ := hP.edge x hx; exact hE.room_pos
    have := hle _ _ (push_isFlow (by omega) hst hP m3 hf)
    omega
end Go.Proofs.Ythegjmgljolalaa
