/-
  Plain: the search of spread.
-/
import Derived.Test.YtfddebpeiilohaaRM1
import Derived.Test.YtfddebpeiilohaaQ1
set_option linter.all false
namespace Go.Proofs.Ytfddebpeiilohaa
open Go Go.W

structure Leg where
  secs : Int
  edges : Int
instance : Inhabited Leg := ⟨⟨0, 0⟩⟩
def legCells (x : Leg) : List Value := [I x.secs, I x.edges]
theorem legCells_len (x : Leg) : (legCells x).length = 2 := rfl
def fnd (found : List Bool) (v : Nat) : Bool := found.getD v false
def bst (best : List Leg) (v : Nat) : Int := (best.getD v default).secs
structure SpI (l : List Edg) (n s : Nat) (K : Nat → Bool) (D : Nat → Int) (x : Nat) (Pr : Nat → Prop) (found : List Bool) (best : List Leg) (h : List Ent) : Prop where
  flen : found.length = n
  blen : best.length = n
  ent : ∀ y ∈ h, (∃ v : Nat, v < n ∧ y.node = v ∧ K v = true ∧ D v ≤ y.secs) ∧ (0 ≤ y.edges ∧ y.edges ≤ (n : Int) - openN found) ∧ y.secs ≤ 1000 * y.edges
  fin : ∀ v, v < n → fnd found v = true → K v = true ∧ bst best v = D v
  pend : ∀ i u v w, EdgeAt l i u v w → u < n → v < n → fnd found u = true → (u ≠ x ∨ Pr i) → fnd found v = true ∨ ∃ y ∈ h, y.node = v ∧ y.secs ≤ D u + w
  src : fnd found s = true ∨ ∃ y ∈ h, y.node = s ∧ y.secs ≤ 0
section
variable {l : List Edg} {n s x : Nat} {K : Nat → Bool} {D : Nat → Int} {Pr : Nat → Prop} {found : List Bool} {best : List Leg} {h : List Ent}
theorem openN_len : ∀ l : List Bool, openN l ≤ l.length := fun l => by unfold openN; exact List.length_filter_le _ _
theorem fnd_set {b v : Nat} {y : Bool} (hb : b < found.length) : fnd (found.set b y) v = if b = v then y else fnd found v := by
  unfold fnd
  by_cases h : b = v
  · subst h; simp [hb]
  · simp [h, List.getElem?_set]
theorem bst_set {b v : Nat} {y : Leg} (hb : b < best.length) : bst (best.set b y) v = if b = v then y.secs else bst best v := by
  unfold bst
  by_cases h : b = v
  · subst h; simp [hb]
  · simp [h, List.getElem?_set]
theorem SpI.mono (hI : SpI l n s K D x Pr found best h) {Pr' : Nat → Prop} (hp : ∀ i, i < l.length → Pr' i → Pr i) : SpI l n s K D x Pr' found best h :=
  { hI with pend := fun i u v w hE hu hv hf hx => hI.pend i u v w hE hu hv hf (hx.imp id (hp i hE.1)) }
theorem SpI.init (hR : RD l n s K D) (hs : s < n) : SpI l n s K D x Pr (List.replicate n false) (List.replicate n default) [⟨s, 0, 0, 0⟩] := by
  have hf : ∀ v, fnd (List.replicate n false) v = false := fun v => by by_cases hv : v < n <;> simp [fnd, hv]
  refine ⟨by simp, by simp, fun y hy => ?_, fun v _ h1 => (by rw [hf] at h1; cases h1), fun i u v w _ _ _ h1 => (by rw [hf] at h1; cases h1), .inr ⟨_, List.mem_cons_self .., rfl, Int.le_refl _⟩⟩
  simp only [List.mem_cons, List.not_mem_nil, or_false] at hy
  subst hy
  refine ⟨⟨s, hs, rfl, hR.src.1, by rw [hR.src.2]; exact Int.le_refl _⟩, ⟨Int.le_refl _, ?_⟩, by simp⟩
  have : openN (List.replicate n false) = n := by simp [openN]
  show (0 : Int) ≤ (n : Int) - openN (List.replicate n false)
  omega
/-- a node that is not found has a node before it that waits -/
theorem SpI.waits (hI : SpI l n s K D x (fun _ => True) found best h) (hok : RoadOk n l) (hR : RD l n s K D) : ∀ v, v < n → K v = true → fnd found v = false → ∃ y ∈ h, y.secs ≤ D v := by
  have key : ∀ (m : Nat) (v : Nat), v < n → K v = true → fnd found v = false → D v ≤ m → ∃ y ∈ h, y.secs ≤ D v := by
    intro m
    induction m with
    | zero =>
      intro v hv hk hf hm
      by_cases hvs : v = s
      · subst hvs
        rcases hI.src with q | ⟨y, hy, _, q⟩
        · rw [hf] at q; cases q
        · exact ⟨y, hy, by rw [hR.src.2]; exact q⟩
      · obtain ⟨u, i, w, hu, hku, hE, hd⟩ := hR.par v hv hk hvs
        have := hR.nn u hu hku
        have := hE.pos hok
        omega
    | succ m ih =>
      intro v hv hk hf hm
      by_cases hvs : v = s
      · subst hvs
        rcases hI.src with q | ⟨y, hy, _, q⟩
        · rw [hf] at q; cases q
        · exact ⟨y, hy, by rw [hR.src.2]; exact q⟩
      · obtain ⟨u, i, w, hu, hku, hE, hd⟩ := hR.par v hv hk hvs
        have hp := hE.pos hok
        cases hfu : fnd found u with
        | true =>
          rcases hI.pend i u v w hE hu hv hfu (.inr trivial) with q | ⟨y, hy, _, q⟩
          · rw [hf] at q; cases q
          · exact ⟨y, hy, by omega⟩
        | false =>
          obtain ⟨y, hy, q⟩ := ih u hu hku hfu (by omega)
          exact ⟨y, hy, by omega⟩
  intro v hv hk hf
  exact key (D v).toNat v hv hk hf (by omega)
theorem SpI.stale (hI : SpI l n s K D x (fun _ => True) found best h) {y : Ent} {h' : List Ent} (hp : (y :: h').Perm h) {v : Nat} (hy : y.node = v) (hv : fnd found v = true) : SpI l n s K D x (fun _ => True) found best h' :=
  { hI with
    ent := fun z hz => hI.ent z (hp.subset (List.mem_cons_of_mem _ hz))
    pend := fun i u b w hE hu hb hf hx => by
      rcases hI.pend i u b w hE hu hb hf hx with q | ⟨z, hz, q1, q2⟩
      · exact .inl q
      · rcases List.mem_cons.1 (hp.symm.subset hz) with rfl | hz
        · have : b = v := by omega
          subst this; exact .inl hv
        · exact .inr ⟨z, hz, q1, q2⟩
    src := by
      rcases hI.src with q | ⟨z, hz, q1, q2⟩
      · exact .inl q
      · rcases List.mem_cons.1 (hp.symm.subset hz) with rfl | hz
        · have : s = v := by omega
          subst this; exact .inl hv
        · exact .inr ⟨z, hz, q1, q2⟩ }
theorem SpI.fresh (hI : SpI l n s K D x (fun _ => True) found best h) (hok : RoadOk n l) (hR : RD l n s K D) {y : Ent} {h' : List Ent} (hp : (y :: h').Perm h) (hmin : ∀ z ∈ h, legLt z.secs z.edges y.secs y.edges = false) {v : Nat} (hy : y.node = v) (hv : v < n) (hf : fnd found v = false) :
    K v = true ∧ y.secs = D v ∧ (0 ≤ y.edges ∧ y.edges < (n : Int) - openN (found.set v true)) ∧ y.secs ≤ 1000 * y.edges ∧ SpI l n s K D v (fun _ => False) (found.set v true) (best.set v ⟨y.secs, y.edges⟩) h' := by
  have hmem : y ∈ h := hp.subset (List.mem_cons_self ..)
  obtain ⟨⟨v', _, e1, hk, hle⟩, he, hs1⟩ := hI.ent y hmem
  obtain rfl : v' = v := by omega
  obtain ⟨z, hz, hzs⟩ := hI.waits hok hR v' hv hk hf
  have h1 := hmin z hz
  unfold legLt at h1
  simp only [Bool.or_eq_false_iff, decide_eq_false_iff_not] at h1
  have hyd : y.secs = D v' := by omega
  have hvf : v' < found.length := by rw [hI.flen]; exact hv
  have hvb : v' < best.length := by rw [hI.blen]; exact hv
  have ho := openN_set found v' hvf hf
  have f1 : ∀ u, fnd (found.set v' true) u = true → u ≠ v' → fnd found u = true := fun u hu hne => by rw [fnd_set hvf, if_neg (Ne.symm hne)] at hu; exact hu
  have f2 : ∀ u, fnd found u = true → fnd (found.set v' true) u = true := fun u hu => by rw [fnd_set hvf]; split; rfl; exact hu
  have f3 : fnd (found.set v' true) v' = true := by rw [fnd_set hvf, if_pos rfl]
  refine ⟨hk, hyd, ⟨he.1, by omega⟩, hs1, ⟨by simp [hI.flen], by simp [hI.blen], fun z hz => ?_, fun u hu h2 => ?_, fun i u b w hE hu hb hfu hx => ?_, ?_⟩⟩
  · obtain ⟨q1, q2, q3⟩ := hI.ent z (hp.subset (List.mem_cons_of_mem _ hz))
    exact ⟨q1, ⟨q2.1, by omega⟩, q3⟩
  · rw [bst_set hvb]
    by_cases hu2 : u = v'
    · subst hu2; rw [if_pos rfl]; exact ⟨hk, hyd⟩
    · rw [if_neg (Ne.symm hu2)]; exact hI.fin u hu (f1 u h2 hu2)
  · have hux : u ≠ v' := by rcases hx with q | q; exact q; exact q.elim
    rcases hI.pend i u b w hE hu hb (f1 u hfu hux) (.inr trivial) with q | ⟨z, hz, q1, q2⟩
    · exact .inl (f2 b q)
    · rcases List.mem_cons.1 (hp.symm.subset hz) with rfl | hz
      · have : b = v' := by omega
        subst this; exact .inl f3
      · exact .inr ⟨z, hz, q1, q2⟩
  · rcases hI.src with q | ⟨z, hz, q1, q2⟩
    · exact .inl (f2 s q)
    · rcases List.mem_cons.1 (hp.symm.subset hz) with rfl | hz
      · have : s = v' := by omega
        subst this; exact .inl f3
      · exact .inr ⟨z, hz, q1, q2⟩
/-- an edge that is pushed -/
theorem SpI.push (hI : SpI l n s K D x Pr found best h) (hok : RoadOk n l) (hR : RD l n s K D) {i b : Nat} {w d e p : Int} {h' : List Ent} (hE : EdgeAt l i x b w) (hx : x < n) (hfx : fnd found x = true) (hb : b < n) (hd : d = D x) (he : 0 ≤ e ∧ e < (n : Int) - openN found) (hde : d ≤ 1000 * e) (hp : h'.Perm (h ++ [⟨b, d + w, e + 1, p⟩])) :
    SpI l n s K D x (fun j => Pr j ∨ j = i) found best h' := by
  have hw := hE.pos hok
  have hkx := (hI.fin x hx hfx).1
  have hcl := hR.clo i x b w hE hx hb hkx
  refine ⟨hI.flen, hI.blen, fun y hy => ?_, hI.fin, fun j u v w' hE' hu hv hf hor => ?_, ?_⟩
  · rcases List.mem_append.1 (hp.subset hy) with hy | hy
    · exact hI.ent y hy
    · simp only [List.mem_cons, List.not_mem_nil, or_false] at hy
      subst hy
      exact ⟨⟨b, hb, rfl, hcl.1, by show D b ≤ d + w; omega⟩, ⟨by show 0 ≤ e + 1; omega, by show e + 1 ≤ _; omega⟩, by show d + w ≤ 1000 * (e + 1); omega⟩
  · have old : (u ≠ x ∨ Pr j) → fnd found v = true ∨ ∃ y ∈ h', y.node = v ∧ y.secs ≤ D u + w' := fun q => by
      rcases hI.pend j u v w' hE' hu hv hf q with q | ⟨y, hy, q1, q2⟩
      · exact .inl q
      · exact .inr ⟨y, hp.symm.subset (List.mem_append_left _ hy), q1, q2⟩
    rcases hor with q | q | q
    · exact old (.inl q)
    · exact old (.inr q)
    · subst q
      obtain ⟨_, a1, a2, a3⟩ := hE
      obtain ⟨_, b1, b2, b3⟩ := hE'
      refine .inr ⟨_, hp.symm.subset (List.mem_append_right _ (List.mem_cons_self ..)), ?_, ?_⟩
      · show (b : Int) = v; omega
      · show d + w ≤ D u + w'
        have : u = x := by omega
        subst this; omega
  · rcases hI.src with q | ⟨y, hy, q1, q2⟩
    · exact .inl q
    · exact .inr ⟨y, hp.symm.subset (List.mem_append_left _ hy), q1, q2⟩
/-- an edge that is not -/
theorem SpI.pass (hI : SpI l n s K D x Pr found best h) {i : Nat} (hno : ∀ b w, EdgeAt l i x b w → fnd found b = true) : SpI l n s K D x (fun j => Pr j ∨ j = i) found best h :=
  { hI with pend := fun j u v w hE hu hv hf hor => by
                    rcases hor with q | q | q
                    · exact hI.pend j u v w hE hu hv hf (.inl q)
                    · exact hI.pend j u v w hE hu hv hf (.inr q)
                    · by_cases hux : u = x
                      · subst hux; subst q; exact .inl (hno v w hE)
                      · exact hI.pend j u v w hE hu hv hf (.inl hux) }
theorem SpI.done (hI : SpI l n s K D x (fun _ => True) found best []) (hok : RoadOk n l) (hR : RD l n s K D) : ∀ v, v < n → fnd found v = K v ∧ (K v = true → bst best v = D v) := fun v hv => by
  cases hk : K v with
  | true =>
    cases hf : fnd found v with
    | true => exact ⟨rfl, fun _ => (hI.fin v hv hf).2⟩
    | false => obtain ⟨y, hy, _⟩ := hI.waits hok hR v hv hk hf; cases hy
  | false =>
    cases hf : fnd found v with
    | true => have := (hI.fin v hv hf).1; rw [hk] at this; cases this
    | false => exact ⟨rfl, fun q => by cases q⟩
end
end Go.Proofs.Ytfddebpeiilohaa

/-
  Plain: rounds of relaxation on a road.
-/
set_option linter.all false
namespace Go.Proofs.Ytfddebpeiilohaa
open Go Go.W

def dAt (d : List Int) (v : Nat) : Int := d.getD v 0
theorem dAt_set {d : List Int} {b v : Nat} {y : Int} (hb : b < d.length) : dAt (d.set b y) v = if b = v then y else dAt d v := by
  unfold dAt
  by_cases h : b = v
  · subst h; simp [hb]
  · simp [h, List.getElem?_set]
/-- how many nodes are nearer -/
def rkOf (n : Nat) (K : Nat → Bool) (D : Nat → Int) (v : Nat) : Nat := (List.range n).countP fun x => K x && decide (D x < D v)
theorem rkOf_le (n : Nat) (K : Nat → Bool) (D : Nat → Int) (v : Nat) : rkOf n K D v ≤ n := by
  have h : rkOf n K D v ≤ (List.range n).length := List.countP_le_length
  simpa using h
theorem countP_lt {α : Type} {p q : α → Bool} : ∀ {l : List α} {x : α}, x ∈ l → (∀ y ∈ l, p y = true → q y = true) → p x = false → q x = true → l.countP p < l.countP q
  | [], _, h, _, _, _ => by cases h
  | a :: l, x, h, hpq, hp, hq => by
    have hle : l.countP p ≤ l.countP q := by
      clear h
      have hpq' : ∀ y ∈ l, p y = true → q y = true := fun y hy => hpq y (List.mem_cons_of_mem _ hy)
      clear hpq
      induction l with
      | nil => simp
      | cons b l ih =>
        have h1 := ih fun y hy => hpq' y (List.mem_cons_of_mem _ hy)
        have h2 := hpq' b (List.mem_cons_self ..)
        rw [List.countP_cons, List.countP_cons]
        cases hb : p b with
        | true => rw [h2 hb]; simp; exact h1
        | false => simp; omega
    rw [List.countP_cons, List.countP_cons]
    rcases List.mem_cons.1 h with rfl | h
    · rw [hp, hq]; simp; omega
    · have h1 := countP_lt h (fun y hy => hpq y (List.mem_cons_of_mem _ hy)) hp hq
      have h2 := hpq a (List.mem_cons_self ..)
      cases ha : p a with
      | true => rw [h2 ha]; simp; exact h1
      | false => simp; omega
theorem rkOf_lt {n : Nat} {K : Nat → Bool} {D : Nat → Int} {u v : Nat} (hu : u < n) (hk : K u = true) (h : D u < D v) : rkOf n K D u < rkOf n K D v := by
  refine countP_lt (x := u) (by simpa using hu) (fun y _ hy => ?_) (by simp) (by simp [hk, h])
  simp only [Bool.and_eq_true, decide_eq_true_eq] at hy ⊢
  exact ⟨hy.1, by omega⟩
structure BFR (l : List Edg) (n s : Nat) (K : Nat → Bool) (D : Nat → Int) (r : Nat) (Pr : Nat → Prop) (d ed : List Int) (c : Int) : Prop where
  dlen : d.length = n
  elen : ed.length = n
  unk : ∀ v, v < n → K v = false → dAt d v = 1099511627776
  lo : ∀ v, v < n → K v = true → D v ≤ dAt d v ∧ dAt d v ≤ 1099511627776
  rnd : ∀ v, v < n → K v = true → rkOf n K D v ≤ r → dAt d v = D v
  pr : ∀ i u v w, EdgeAt l i u v w → Pr i → u < n → v < n → K u = true → rkOf n K D u ≤ r → dAt d v ≤ D u + w
  ebd : ∀ v, v < n → 0 ≤ dAt ed v ∧ dAt ed v ≤ 1099511627776 + c
section
variable {l : List Edg} {n s : Nat} {K : Nat → Bool} {D : Nat → Int} {r : Nat} {Pr : Nat → Prop} {d ed : List Int} {c : Int}
theorem RD.bd (hR : RD l n s K D) (hok : RoadOk n l) : ∀ v, v < n → K v = true → D v ≤ 1000 * rkOf n K D v := by
  have key : ∀ (m v : Nat), v < n → K v = true → rkOf n K D v ≤ m → D v ≤ 1000 * rkOf n K D v := by
    intro m
    induction m with
    | zero =>
      intro v hv hk hm
      by_cases hvs : v = s
      · subst hvs; rw [hR.src.2]; omega
      · obtain ⟨u, i, w, hu, hku, hE, hd⟩ := hR.par v hv hk hvs
        have := hE.pos hok
        have := rkOf_lt (D := D) (v := v) hu hku (by omega)
        omega
    | succ m ih =>
      intro v hv hk hm
      by_cases hvs : v = s
      · subst hvs; rw [hR.src.2]; omega
      · obtain ⟨u, i, w, hu, hku, hE, hd⟩ := hR.par v hv hk hvs
        have := hE.pos hok
        have h1 := rkOf_lt (D := D) (v := v) hu hku (by omega)
        have h2 := ih u hu hku (by omega)
        omega
  exact fun v hv hk => key _ v hv hk (Nat.le_refl _)
theorem RD.small (hR : RD l n s K D) (hok : RoadOk n l) {v : Nat} (hv : v < n) (hk : K v = true) : 0 ≤ D v ∧ D v ≤ 64000 := by
  have h1 := hR.bd hok v hv hk
  have h2 := rkOf_le n K D v
  have h3 := hok.n2
  exact ⟨hR.nn v hv hk, by omega⟩
theorem BFR.mono (h : BFR l n s K D r Pr d ed c) {Pr' : Nat → Prop} {c' : Int} (hp : ∀ i, i < l.length → Pr' i → Pr i) (hc : c ≤ c') : BFR l n s K D r Pr' d ed c' :=
  { h with pr := fun i u v w hE hp' => h.pr i u v w hE (hp i hE.1 hp'), ebd := fun v hv => ⟨(h.ebd v hv).1, by have := (h.ebd v hv).2; omega⟩ }
theorem BFR.init (hR : RD l n s K D) (hok : RoadOk n l) (hs : s < n) : BFR l n s K D 0 (fun _ => False) ((List.replicate n 1099511627776).set s 0) ((List.replicate n 1099511627776).set s 0) 0 := by
  have hd : ∀ v, v < n → dAt ((List.replicate n 1099511627776).set s 0) v = if s = v then 0 else 1099511627776 := fun v hv => by rw [dAt_set (by simpa using hs)]; simp [dAt, hv]
  refine ⟨by simp, by simp, fun v hv hk => ?_, fun v hv hk => ?_, fun v hv hk hr => ?_, fun i u v w _ hp => hp.elim, fun v hv => ?_⟩
  · rw [hd v hv, if_neg (fun h => by subst h; rw [hR.src.1] at hk; cases hk)]
  · have := hR.small hok hv hk
    rw [hd v hv]
    split
    · rename_i h; subst h; rw [hR.src.2]; omega
    · omega
  · by_cases h : v = s
    · subst h; rw [hd v hv, if_pos rfl, hR.src.2]
    · obtain ⟨u, i, w, hu, hku, hE, hD⟩ := hR.par v hv hk h
      have := hE.pos hok
      have := rkOf_lt (D := D) (v := v) hu hku (by omega)
      omega
  · rw [hd v hv]; split <;> omega
theorem BFR.relax (h : BFR l n s K D r Pr d ed c) (hR : RD l n s K D) (hok : RoadOk n l) {i u v : Nat} {w : Int} (hE : EdgeAt l i u v w) (hu : u < n) (hv : v < n) (h1 : dAt d u < 1099511627776) (h2 : dAt d u + w ≤ dAt d v) :
    BFR l n s K D r (fun j => Pr j ∨ j = i) (d.set v (dAt d u + w)) (ed.set v (dAt ed u + 1)) (c + 1) := by
  have hku : K u = true := by
    cases hk : K u with
    | true => rfl
    | false => have := h.unk u hu hk; omega
  obtain ⟨hkv, hdv⟩ := hR.clo i u v w hE hu hv hku
  have hlu := h.lo u hu hku
  have hlv := h.lo v hv hkv
  have hvl : v < d.length := by rw [h.dlen]; exact hv
  have hve : v < ed.length := by rw [h.elen]; exact hv
  have d1 : ∀ x, x ≠ v → dAt (d.set v (dAt d u + w)) x = dAt d x := fun x hx => by rw [dAt_set hvl, if_neg (Ne.symm hx)]
  have d2 : dAt (d.set v (dAt d u + w)) v = dAt d u + w := by rw [dAt_set hvl, if_pos rfl]
  refine ⟨by simp [h.dlen], by simp [h.elen], fun x hx hk => ?_, fun x hx hk => ?_, fun x hx hk hr => ?_, fun j a b w' hE' hp ha hb hka hra => ?_, fun x hx => ?_⟩
  · rw [d1 x (fun he => by rw [he, hkv] at hk; cases hk)]; exact h.unk x hx hk
  · by_cases he : x = v
    · subst he; rw [d2]; omega
    · rw [d1 x he]; exact h.lo x hx hk
  · have h3 := h.rnd x hx hk hr
    by_cases he : x = v
    · subst he; rw [d2]; omega
    · rw [d1 x he]; exact h3
  · by_cases he : b = v
    · rw [he, d2]
      rcases hp with hp | rfl
      · have := h.pr j a b w' hE' hp ha hb hka hra; rw [he] at this; omega
      · obtain ⟨_, a1, a2, a3⟩ := hE
        obtain ⟨_, b1, b2, b3⟩ := hE'
        have e1 : a = u := by omega
        subst e1
        have := h.rnd a ha hka hra
        omega
    · rw [d1 b he]
      rcases hp with hp | rfl
      · exact h.pr j a b w' hE' hp ha hb hka hra
      · obtain ⟨_, a1, a2, a3⟩ := hE
        obtain ⟨_, b1, b2, b3⟩ := hE'
        exact absurd (by omega) he
  · rw [dAt_set hve]
    have h4 := h.ebd x hx
    have h5 := h.ebd u hu
    split <;> omega
theorem BFR.keep (h : BFR l n s K D r Pr d ed c) (hR : RD l n s K D) (hok : RoadOk n l) {i u v : Nat} {w : Int} (hE : EdgeAt l i u v w) (hno : ¬ (dAt d u < 1099511627776 ∧ dAt d u + w < dAt d v)) : BFR l n s K D r (fun j => Pr j ∨ j = i) d ed c :=
  { h with pr := fun j a b w' hE' hp ha hb hka hra => by
                  rcases hp with hp | rfl
                  · exact h.pr j a b w' hE' hp ha hb hka hra
                  · obtain ⟨_, a1, a2, a3⟩ := hE
                    obtain ⟨_, b1, b2, b3⟩ := hE'
                    have e1 : a = u := by omega
                    have e2 : b = v := by omega
                    subst e1 e2
                    have h1 := h.rnd a ha hka hra
                    have h2 := hR.small hok ha hka
                    have h4 : ¬ (dAt d a + w < dAt d b) := fun q => hno ⟨by omega, q⟩
                    omega }
theorem BFR.round (h : BFR l n s K D r (fun i => i < l.length) d ed c) (hR : RD l n s K D) (hok : RoadOk n l) (hs : s < n) : BFR l n s K D (r + 1) (fun i => i < 0) d ed c :=
  { h with
    rnd := fun v hv hk hr => by
      by_cases hvs : v = s
      · by_cases hr2 : rkOf n K D v ≤ r
        · exact h.rnd v hv hk hr2
        · subst hvs
          have h0 : rkOf n K D v = 0 := by
            unfold rkOf
            rw [List.countP_eq_zero]
            intro x hx
            simp only [Bool.and_eq_true, decide_eq_true_eq, not_and]
            intro hkx
            have := hR.nn x (by simpa using hx) hkx
            rw [hR.src.2]; omega
          omega
      · obtain ⟨u, i, w, hu, hku, hE, hD⟩ := hR.par v hv hk hvs
        have hp := hE.pos hok
        have h0 := rkOf_lt (D := D) (v := v) hu hku (by omega)
        have h1 := h.pr i u v w hE hE.1 hu hv hku (by omega)
        have h2 := h.lo v hv hk
        omega
    pr := fun i u v w _ hp => absurd hp (by omega) }
theorem BFR.done (h : BFR l n s K D r Pr d ed c) (hr : n ≤ r) : ∀ v, v < n → dAt d v = if K v = true then D v else 1099511627776 := fun v hv => by
  cases hk : K v with
  | true => rw [if_pos rfl]; exact h.rnd v hv hk (by have := rkOf_le n K D v; omega)
  | false => rw [if_neg (by simp)]; exact h.unk v hv hk
end
def rv (a : Edg) : Edg := ⟨a.t, a.f, a.secs⟩
theorem rv_rv (l : List Edg) : (l.map rv).map rv = l := by
  rw [List.map_map]
  have : rv ∘ rv = id := by funext a; rfl
  rw [this, List.map_id]
theorem RoadOk.rv {n : Nat} {l : List Edg} (h : RoadOk n l) : RoadOk n (l.map rv) := by
  refine ⟨h.n1, h.n2, by simpa using h.len, fun a ha => ?_, fun a ha => ?_⟩
  · obtain ⟨b, hb, rfl⟩ := List.mem_map.1 ha
    exact ⟨(h.nodes b hb).2, (h.nodes b hb).1⟩
  · obtain ⟨b, hb, rfl⟩ := List.mem_map.1 ha
    exact h.secs b hb
end Go.Proofs.Ytfddebpeiilohaa
