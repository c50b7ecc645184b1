/-
  Plain: roads, least times.
-/
import Derived.Test.YtfddebpeiilohaaArg
set_option linter.all false
namespace Go.Proofs.Ytfddebpeiilohaa
open Go Go.W

structure Edg where
  f : Int
  t : Int
  secs : Int
instance : Inhabited Edg := ⟨⟨0, 0, 0⟩⟩
def edgCells (a : Edg) : List Value := [I a.f, I a.t, I a.secs]
theorem edgCells_len (a : Edg) : (edgCells a).length = 3 := rfl
abbrev EdgsAt := RowsAt 3 edgCells
def isNode (n k : Int) : Bool := decide (0 ≤ k) && decide (k < n)
def edgBad (n : Int) (a : Edg) : Bool := (!isNode n a.f) || (!isNode n a.t)
def edgRange (a : Edg) : Bool := decide (a.secs < 1) || decide (1000 < a.secs)
def edgsErr (n : Int) : List Edg → Int
  | [] => 0
  | a :: l => if edgBad n a = true then 7 else if edgRange a = true then 1 else edgsErr n l
def roadErr (n : Int) (l : List Edg) : Int := if (decide (n < 1) || decide (64 < n)) = true then 1 else if (512 : Int) < l.length then 8 else edgsErr n l
theorem edgsErr_drop {n : Int} {l : List Edg} : ∀ {j : Nat}, j ≤ l.length → (∀ i (hi : i < l.length), i < j → edgBad n l[i] = false ∧ edgRange l[i] = false) → edgsErr n l = edgsErr n (l.drop j)
  | 0, _, _ => rfl
  | j + 1, hj, h => by
    rw [edgsErr_drop (j := j) (by omega) (fun i hi hij => h i hi (by omega)), List.drop_eq_getElem_cons (show j < l.length by omega), edgsErr]
    have := h j (by omega) (by omega)
    simp [this.1, this.2]
theorem edgsErr_ok {n : Int} : ∀ {l : List Edg}, edgsErr n l = 0 → ∀ a ∈ l, edgBad n a = false ∧ edgRange a = false
  | [], _, a, ha => by cases ha
  | b :: l, h, a, ha => by
    rw [edgsErr] at h
    split at h
    · cases h
    · rename_i h1
      split at h
      · cases h
      · rename_i h2
        rcases List.mem_cons.1 ha with rfl | ha
        · exact ⟨by simpa using h1, by simpa using h2⟩
        · exact edgsErr_ok h a ha
/-- a road as Check lets it pass -/
structure RoadOk (n : Nat) (l : List Edg) : Prop where
  n1 : 1 ≤ n
  n2 : n ≤ 64
  len : l.length ≤ 512
  nodes : ∀ a ∈ l, (0 ≤ a.f ∧ a.f < n) ∧ (0 ≤ a.t ∧ a.t < n)
  secs : ∀ a ∈ l, 1 ≤ a.secs ∧ a.secs ≤ 1000
theorem roadOk_of {n : Int} {l : List Edg} (h : roadErr n l = 0) : ∃ m : Nat, n = m ∧ RoadOk m l := by
  unfold roadErr at h
  split at h
  · cases h
  · rename_i h1
    split at h
    · cases h
    · rename_i h2
      have h1 : 1 ≤ n ∧ n ≤ 64 := by simp at h1; omega
      obtain ⟨m, rfl⟩ := Int.eq_ofNat_of_zero_le (show 0 ≤ n by omega)
      refine ⟨m, rfl, by omega, by omega, by simp at h2; omega, fun a ha => ?_, fun a ha => ?_⟩
      · have := (edgsErr_ok h a ha).1
        simp [edgBad, isNode] at this; omega
      · have := (edgsErr_ok h a ha).2
        simp [edgRange] at this; omega
/-- the edge from u to v, of w seconds -/
def EdgeAt (l : List Edg) (i u v : Nat) (w : Int) : Prop := ∃ h : i < l.length, l[i].f = u ∧ l[i].t = v ∧ l[i].secs = w
/-- a walk from s to v, of c seconds -/
inductive Walk (l : List Edg) (s : Nat) : Nat → Int → Prop
  | nil : Walk l s s 0
  | step {u v i : Nat} {c w : Int} : Walk l s u c → EdgeAt l i u v w → Walk l s v (c + w)
theorem least_ex {P : Nat → Prop} : ∀ (n : Nat), P n → ∃ m, P m ∧ ∀ k, P k → m ≤ k := by
  intro n
  induction n using Nat.strongRecOn with
  | _ n ih =>
    intro hn
    by_cases h : ∃ k, k < n ∧ P k
    · obtain ⟨k, hk, hp⟩ := h
      exact ih k hk hp
    · exact ⟨n, hn, fun k hk => Nat.le_of_not_lt fun hlt => h ⟨k, hlt, hk⟩⟩
/-- the nodes K that can be reached from s, with least times D -/
structure RD (l : List Edg) (n s : Nat) (K : Nat → Bool) (D : Nat → Int) : Prop where
  src : K s = true ∧ D s = 0
  clo : ∀ i u v w, EdgeAt l i u v w → u < n → v < n → K u = true → K v = true ∧ D v ≤ D u + w
  par : ∀ v, v < n → K v = true → v ≠ s → ∃ u i w, u < n ∧ K u = true ∧ EdgeAt l i u v w ∧ D v = D u + w
  nn : ∀ v, v < n → K v = true → 0 ≤ D v
section
variable {l l' : List Edg} {n s : Nat} {K K' : Nat → Bool} {D D' : Nat → Int}
theorem EdgeAt.pos (h : RoadOk n l) {i u v : Nat} {w : Int} (hE : EdgeAt l i u v w) : 1 ≤ w ∧ w ≤ 1000 ∧ u < n ∧ v < n := by
  obtain ⟨hi, h1, h2, h3⟩ := hE
  have q1 := h.secs l[i] (List.getElem_mem hi)
  have q2 := h.nodes l[i] (List.getElem_mem hi)
  omega
theorem Walk.nn (h : RoadOk n l) {v : Nat} {c : Int} (hw : Walk l s v c) : 0 ≤ c := by
  induction hw with
  | nil => exact Int.le_refl _
  | step _ hE ih => have := hE.pos h; omega
open Classical in
theorem rd_exists (h : RoadOk n l) (hs : s < n) : ∃ K D, RD l n s K D := by
  have hleast : ∀ v, (∃ c, Walk l s v c) → ∃ c, Walk l s v c ∧ ∀ c', Walk l s v c' → c ≤ c' := fun v ⟨c, hc⟩ => by
    have h0 := hc.nn h
    obtain ⟨c, rfl⟩ := Int.eq_ofNat_of_zero_le h0
    obtain ⟨m, hm, hl⟩ := least_ex (P := fun k : Nat => Walk l s v k) c hc
    refine ⟨m, hm, fun c' hc' => ?_⟩
    obtain ⟨c', rfl⟩ := Int.eq_ofNat_of_zero_le (hc'.nn h)
    have := hl c' hc'
    omega
  let D : Nat → Int := fun v => if hv : ∃ c, Walk l s v c then (hleast v hv).choose else 0
  have hD : ∀ v (hv : ∃ c, Walk l s v c), Walk l s v (D v) ∧ ∀ c', Walk l s v c' → D v ≤ c' := fun v hv => by
    have : D v = (hleast v hv).choose := by simp only [D]; rw [dif_pos hv]
    rw [this]; exact (hleast v hv).choose_spec
  have hK : ∀ v, decide (∃ c, Walk l s v c) = true ↔ ∃ c, Walk l s v c := fun v => decide_eq_true_iff
  refine ⟨fun v => decide (∃ c, Walk l s v c), D, ⟨(hK s).2 ⟨0, .nil⟩, ?_⟩, fun i u v w hE hu hv hk => ?_, fun v hv hk hvs => ?_, fun v hv hk => ((hD v ((hK v).1 hk)).1).nn h⟩
  · have h1 := (hD s ⟨0, .nil⟩).2 0 .nil
    have h2 := ((hD s ⟨0, .nil⟩).1).nn h
    omega
  · have h1 := (hD u ((hK u).1 hk)).1
    have h2 := Walk.step h1 hE
    exact ⟨(hK v).2 ⟨_, h2⟩, (hD v ⟨_, h2⟩).2 _ h2⟩
  · obtain ⟨h1, h2⟩ := hD v ((hK v).1 hk)
    generalize hc : D v = c at h1 h2
    cases h1 with
    | nil => exact absurd rfl hvs
    | @step u _ i c w hw hE =>
      have hu : ∃ c, Walk l s u c := ⟨_, hw⟩
      obtain ⟨h3, h4⟩ := hD u hu
      have h5 := h4 _ hw
      have h6 := h2 _ (Walk.step h3 hE)
      exact ⟨u, i, w, (hE.pos h).2.2.1, (hK u).2 hu, hE, by omega⟩
/-- least times by all edges of l are at least those by all edges of l' -/
theorem RD.le (h : RoadOk n l) (h1 : RD l n s K D) (h2 : RD l' n s K' D') (hsub : ∀ i u v w, EdgeAt l i u v w → ∃ i', EdgeAt l' i' u v w) : ∀ v, v < n → K v = true → K' v = true ∧ D' v ≤ D v := by
  have key : ∀ (m : Nat) (v : Nat), v < n → K v = true → D v ≤ m → K' v = true ∧ D' v ≤ D v := by
    intro m
    induction m with
    | zero =>
      intro v hv hk hm
      by_cases hvs : v = s
      · subst hvs; exact ⟨h2.src.1, by rw [h2.src.2, h1.src.2]; exact Int.le_refl _⟩
      · obtain ⟨u, i, w, hu, hku, hE, hd⟩ := h1.par v hv hk hvs
        have := h1.nn u hu hku
        have := hE.pos h
        omega
    | succ m ih =>
      intro v hv hk hm
      by_cases hvs : v = s
      · subst hvs; exact ⟨h2.src.1, by rw [h2.src.2, h1.src.2]; exact Int.le_refl _⟩
      · obtain ⟨u, i, w, hu, hku, hE, hd⟩ := h1.par v hv hk hvs
        have hp := hE.pos h
        obtain ⟨q1, q2⟩ := ih u hu hku (by omega)
        obtain ⟨i', hE'⟩ := hsub i u v w hE
        obtain ⟨q3, q4⟩ := h2.clo i' u v w hE' hu hv q1
        exact ⟨q3, by omega⟩
  intro v hv hk
  exact key (D v).toNat v hv hk (by omega)
theorem RD.unique (h : RoadOk n l) (h1 : RD l n s K D) (h2 : RD l n s K' D') : ∀ v, v < n → K v = K' v ∧ (K v = true → D v = D' v) := fun v hv => by
  have a := h1.le h h2 (fun i u v w hE => ⟨i, hE⟩) v hv
  have b := h2.le h h1 (fun i u v w hE => ⟨i, hE⟩) v hv
  cases hk : K v with
  | true => have q1 := a hk; have q2 := b q1.1; exact ⟨q1.1.symm, fun _ => by omega⟩
  | false =>
    refine ⟨?_, fun q => by cases q⟩
    cases hk' : K' v with
    | true => have := (b hk').1; rw [hk] at this; cases this
    | false => rfl
end
end Go.Proofs.Ytfddebpeiilohaa

/-
  Walks: the priority queue of stops: less, before, swap, Len, Peek.
-/
set_option linter.all false
namespace Go.Proofs.Ytfddebpeiilohaa
open Go Go.W Go.RowKit

structure Ent where
  node : Int
  secs : Int
  edges : Int
  n : Int
instance : Inhabited Ent := ⟨⟨0, 0, 0, 0⟩⟩
def labCells (x : Ent) : List Value := [I x.node, I x.secs, I x.edges]
def entCells (x : Ent) : List Value := [I x.node, I x.secs, I x.edges, I x.n]
theorem entCells_len (x : Ent) : (entCells x).length = 4 := rfl
/-- the cells of the queue itself -/
def qCells (A : Option Addr) (n cap : Nat) (p : Int) : List Value := [.func (.func 99) #[] #[], .slice A n cap, I p]
def legLt (s e s2 e2 : Int) : Bool := decide (s < s2) || (decide (s = s2) && decide (e < e2))
def entLt (x y : Ent) : Bool := legLt x.secs x.edges y.secs y.edges || (!legLt y.secs y.edges x.secs x.edges && decide (x.n < y.n))

theorem legBefore (s e s2 e2 : Int) (w0 : World) :
    Calls Try.prog 100 #[.agg #[I s, I e], .agg #[I s2, I e2]] w0 fun r w' => r = .returned (.bool (legLt s e s2 e2)) ∧ Below w0.heap.size w0 w' := by
  have H := SH.refl w0
  refine Calls.ofWP Try.func100 rfl Try.results100 Try.ntmps100 rfl ?_
  refine WP.seq ?_
  refine WP.region ?_
  refine OPS.box rfl rfl rfl rfl (cA rfl) H ?_
  clear H; intro g2 w H
  refine OPS.box rfl rfl rfl rfl (cA rfl) H ?_
  clear H; intro g3 w H
  refine OPS.val rfl rfl rfl (Ev.asB rfl) ?_
  refine OPS.nil ?_
  refine WP.seq ?_
  refine WP.region ?_
  refine OPS.val rfl rfl rfl (Ev.fieldAddr (fld_run rfl) rfl) ?_
  refine OPS.val rfl rfl rfl (Ev.load1 (agg_run rfl) rfl (by exact H.ldL 1 rfl _ rfl)) ?_
  refine OPS.val rfl rfl rfl (Ev.fieldAddr (fld_run rfl) rfl) ?_
  refine OPS.val rfl rfl rfl (Ev.load1 (agg_run rfl) rfl (by exact H.ldL 0 rfl _ rfl)) ?_
  refine OPS.val rfl rfl rfl (Ev.lss rfl rfl) ?_
  refine OPS.val rfl rfl rfl (Ev.mvB rfl) ?_
  refine OPS.gval rfl rfl rfl rfl rfl (fun hg => Ev.fieldAddr (fld_run rfl) (by rfl)) ?_
  refine OPS.gval rfl rfl rfl rfl rfl (fun hg => Ev.load1 (agg_run rfl) (by exact gvE hg rfl) (by exact H.ldL 1 rfl _ rfl)) ?_
  refine OPS.gval rfl rfl rfl rfl rfl (fun hg => Ev.fieldAddr (fld_run rfl) (by rfl)) ?_
  refine OPS.gval rfl rfl rfl rfl rfl (fun hg => Ev.load1 (agg_run rfl) (by exact gvE hg rfl) (by exact H.ldL 0 rfl _ rfl)) ?_
  refine OPS.gval rfl rfl rfl rfl rfl (fun hg => Ev.eql (by exact gvE hg rfl) (by exact gvE hg rfl)) ?_
  refine OPS.gval rfl rfl rfl rfl rfl (fun hg => Ev.mvB (by exact gvE hg rfl)) ?_
  refine OPS.gvalN rfl rfl (GB.g rfl) rfl rfl (fun hg => Ev.fieldAddr (fld_run rfl) (by rfl)) ?_
  refine OPS.gvalN rfl rfl (GB.g rfl) rfl rfl (fun hg => Ev.load1 (agg_run rfl) (by exact gvE hg rfl) (by exact H.ldL 1 rfl _ rfl)) ?_
  refine OPS.gvalN rfl rfl (GB.g rfl) rfl rfl (fun hg => Ev.fieldAddr (fld_run rfl) (by rfl)) ?_
  refine OPS.gvalN rfl rfl (GB.g rfl) rfl rfl (fun hg => Ev.load1 (agg_run rfl) (by exact gvE hg rfl) (by exact H.ldL 0 rfl _ rfl)) ?_
  refine OPS.gvalN rfl rfl (GB.g rfl) rfl rfl (fun hg => Ev.lss (by exact gvE hg rfl) (by exact gvE hg rfl)) ?_
  refine OPS.gval rfl rfl rfl rfl rfl (fun hg => (by exact Ev.pickAnd2 (beqT hg) (gvE hg rfl) rfl rfl)) ?_
  refine OPS.val rfl rfl rfl ((by exact Ev.pickOr rfl rfl rfl)) ?_
  refine OPS.val rfl rfl rfl (Ev.asB rfl) ?_
  refine OPS.nil ?_
  refine WP.ret ⟨_, rfl, ?_⟩
  exact ⟨rfl, H.below⟩
theorem qLess (a s e b s2 e2 : Int) (w0 : World) :
    Calls Try.prog 99 #[.agg #[I a, I s, I e], .agg #[I b, I s2, I e2]] w0 fun r w' => r = .returned (.bool (legLt s e s2 e2)) ∧ Below w0.heap.size w0 w' := by
  have H := SH.refl w0
  refine Calls.ofWP Try.func99 rfl Try.results99 Try.ntmps99 rfl ?_
  refine WP.seq ?_
  refine WP.region ?_
  refine OPS.box rfl rfl rfl rfl (cA rfl) H ?_
  clear H; intro g2 w H
  refine OPS.box rfl rfl rfl rfl (cA rfl) H ?_
  clear H; intro g3 w H
  refine OPS.val rfl rfl rfl (Ev.asB rfl) ?_
  refine OPS.nil ?_
  refine WP.seq ?_
  refine WP.region ?_
  refine OPS.val rfl rfl rfl (Ev.fieldAddr (fld_run rfl) rfl) ?_
  refine OPS.val rfl rfl rfl ((by exact Ev.loadN [_, _] (agg_run rfl) (size_run rfl) rfl ⟨H.ldL 1 rfl _ rfl, H.ldL 1 rfl _ rfl, trivial⟩)) ?_
  refine OPS.val rfl rfl rfl (Ev.fieldAddr (fld_run rfl) rfl) ?_
  refine OPS.val rfl rfl rfl ((by exact Ev.loadN [_, _] (agg_run rfl) (size_run rfl) rfl ⟨H.ldL 0 rfl _ rfl, H.ldL 0 rfl _ rfl, trivial⟩)) ?_
  refine OPS.call (d := some 9) rfl rfl rfl (EvC.func (fun_run rfl)) (legBefore _ _ _ _ _) ?_
  rintro _ w ⟨rfl, hb⟩
  refine ⟨_, rfl, ?_⟩
  replace H := H.toBelow hb; clear hb
  refine OPS.val rfl rfl rfl (Ev.asB rfl) ?_
  refine OPS.nil ?_
  refine WP.ret ⟨_, rfl, ?_⟩
  exact ⟨rfl, H.below⟩

theorem qLen (gq n cap : Nat) (A : Option Addr) (p : Int) (w0 : World) (hq : cellsAt w0 gq 0 (qCells A n cap p)) :
    Calls Try.prog 107 #[.pointer (some ⟨gq, 0, none⟩)] w0 fun e w' => e = .returned (I n) ∧ Below w0.heap.size w0 w' := by
  have H := SH.refl w0
  obtain ⟨q0, q1, q2, _⟩ := hq
  refine Calls.ofWP Try.func107 rfl Try.results107 Try.ntmps107 rfl ?_
  refine WP.seq ?_
  refine WP.region ?_
  refine OPS.val rfl rfl rfl (Ev.asI rfl) ?_
  refine OPS.nil ?_
  refine WP.seq ?_
  refine WP.seq ?_
  refine WP.region ?_
  refine OPS.val rfl rfl rfl (Ev.mvP rfl) ?_
  refine OPS.val rfl rfl rfl (Ev.eqlPn Try.runUnderlying147 rfl rfl) ?_
  refine OPS.nil ?_
  refine WP.cond_f rfl ?_
  refine WP.skip ?_
  refine WP.seq ?_
  refine WP.region ?_
  refine OPS.val rfl rfl rfl (Ev.mvP rfl) ?_
  refine OPS.val rfl rfl rfl ((by exact Ev.nilCheckP rfl)) ?_
  refine OPS.val rfl rfl rfl (Ev.fieldAddr (fld_run rfl) rfl) ?_
  refine OPS.val rfl rfl rfl (Ev.load1 (agg_run rfl) rfl (by exact H.ld0 (by assumption))) ?_
  refine OPS.val rfl rfl rfl (Ev.len (el_run rfl) rfl) ?_
  refine OPS.val rfl rfl rfl (Ev.asI rfl) ?_
  refine OPS.nil ?_
  refine WP.ret ⟨_, rfl, ?_⟩
  exact ⟨rfl, H.below⟩

theorem qBefore (gq cap i k : Nat) (A : Option Addr) (p : Int) (h : List Ent) (w0 : World) (hq : cellsAt w0 gq 0 (qCells A h.length cap p)) (hr : RowsAt 4 entCells w0 A h) (hi : i < h.length) (hk : k < h.length) :
    Calls Try.prog 103 #[.pointer (some ⟨gq, 0, none⟩), I i, I k] w0 fun e w' => e = .returned (.bool (entLt h[i] h[k])) ∧ Below w0.heap.size w0 w' := by
  have H := SH.refl w0
  obtain ⟨q0, q1, q2, _⟩ := hq
  obtain ⟨b, o, rfl, hx⟩ := hr i hi
  obtain ⟨_, _, e1, hy⟩ := hr k hk
  cases e1
  refine Calls.ofWP Try.func103 rfl Try.results103 Try.ntmps103 rfl ?_
  refine WP.seq ?_
  refine WP.region ?_
  refine OPS.val rfl rfl rfl (Ev.asB rfl) ?_
  refine OPS.nil ?_
  refine WP.seq ?_
  refine WP.rheldC [7, 8, 9, 10, 11, 12, 13, 14, 15, 16, 17, 18, 19, 20, 21, 22] (fun u w' => ∃ g7 g8, u 7 = .pointer (some ⟨g7, 0, none⟩) ∧ u 8 = .pointer (some ⟨g8, 0, none⟩) ∧ SH w0 [] w' [⟨g8, 160, entCells h[k]⟩, ⟨g7, 160, entCells h[i]⟩]) mixed H ?_ ?_
  · clear H; intro w hbw1 H
    refine OPH.take 0 rfl rfl rfl rfl (by kernel_rfl) (by kernel_rfl) (by kernel_rfl) rfl (by exact H) (fun w H => Ev.mvP rfl) ?_
    refine OPH.take 1 rfl rfl rfl rfl (by kernel_rfl) (by kernel_rfl) (by kernel_rfl) rfl (by exact H) (fun w H => (by exact Ev.nilCheckP rfl)) ?_
    refine OPH.take 2 rfl rfl rfl rfl (by kernel_rfl) (by kernel_rfl) (by kernel_rfl) rfl (by exact H) (fun w H => Ev.fieldAddr (fld_run rfl) rfl) ?_
    refine OPH.take 3 rfl rfl rfl rfl (by kernel_rfl) (by kernel_rfl) (by kernel_rfl) rfl (by exact H) (fun w H => Ev.load1 (agg_run rfl) rfl (by exact H.ld0 (by assumption))) ?_
    refine OPH.take 4 rfl rfl rfl rfl (by kernel_rfl) (by kernel_rfl) (by kernel_rfl) rfl (by exact H) (fun w H => Ev.mvI rfl) ?_
    refine OPH.take 5 rfl rfl rfl rfl (by kernel_rfl) (by kernel_rfl) (by kernel_rfl) rfl (by exact H) (fun w H => (by exact Ev.indexAddr (el_run rfl) (size_run rfl) rfl rfl rfl (by omega))) ?_
    refine OPH.take 6 rfl rfl rfl rfl (by kernel_rfl) (by kernel_rfl) (by kernel_rfl) rfl (by exact H) (fun w H => (by (change Ev _ _ _ _ (Op.load 160 (Operand.tmp 14)) _; refine Ev.loadN (b := b) (o := o + i * 4) (entCells h[i]) ?_ ?_ ?_ (cellsAt_sh H hx); exact agg_run rfl; exact size_run rfl; rfl))) ?_
    refine OPH.take 7 rfl rfl rfl rfl (by kernel_rfl) (by kernel_rfl) (by kernel_rfl) rfl (by exact H) (fun w H => Ev.mvP rfl) ?_
    refine OPH.take 8 rfl rfl rfl rfl (by kernel_rfl) (by kernel_rfl) (by kernel_rfl) rfl (by exact H) (fun w H => (by exact Ev.nilCheckP rfl)) ?_
    refine OPH.take 9 rfl rfl rfl rfl (by kernel_rfl) (by kernel_rfl) (by kernel_rfl) rfl (by exact H) (fun w H => Ev.fieldAddr (fld_run rfl) rfl) ?_
    refine OPH.take 10 rfl rfl rfl rfl (by kernel_rfl) (by kernel_rfl) (by kernel_rfl) rfl (by exact H) (fun w H => Ev.load1 (agg_run rfl) rfl (by exact H.ld0 (by assumption))) ?_
    refine OPH.take 11 rfl rfl rfl rfl (by kernel_rfl) (by kernel_rfl) (by kernel_rfl) rfl (by exact H) (fun w H => Ev.mvI rfl) ?_
    refine OPH.take 12 rfl rfl rfl rfl (by kernel_rfl) (by kernel_rfl) (by kernel_rfl) rfl (by exact H) (fun w H => (by exact Ev.indexAddr (el_run rfl) (size_run rfl) rfl rfl rfl (by omega))) ?_
    refine OPH.take 13 rfl rfl rfl rfl (by kernel_rfl) (by kernel_rfl) (by kernel_rfl) rfl (by exact H) (fun w H => (by (change Ev _ _ _ _ (Op.load 160 (Operand.tmp 21)) _; refine Ev.loadN (b := b) (o := o + k * 4) (entCells h[k]) ?_ ?_ ?_ (cellsAt_sh H hy); exact agg_run rfl; exact size_run rfl; rfl))) ?_
    refine OPH.all [14, 15] (by kernel_rfl) (by simp) rfl ?_
    intro i hi; simp only [List.mem_cons, List.not_mem_nil, or_false] at hi
    rcases hi with rfl | rfl
    · refine ⟨_, rfl, ?_⟩
      refine OPS.alloc rfl rfl rfl rfl (zero_run rfl) rfl H ?_
      clear H; intro g7 w H
      refine OPS.nil ?_
      refine ⟨(by exact H.drop (List.sublist_cons_self _ _)), ?_⟩
      refine OPH.all [15] (by kernel_rfl) (by simp) rfl ?_
      intro i hi; simp only [List.mem_cons, List.not_mem_nil, or_false] at hi
      rcases hi with rfl
      · refine ⟨_, rfl, ?_⟩
        refine OPS.alloc rfl rfl rfl rfl (zero_run rfl) rfl H ?_
        clear H; intro g8 w H
        refine OPS.nil ?_
        refine ⟨(by exact H.drop ((List.sublist_cons_self _ _).trans (List.sublist_cons_self _ _))), ?_⟩
        refine OPH.all [16] (by kernel_rfl) (by simp) rfl ?_
        intro i hi; simp only [List.mem_cons, List.not_mem_nil, or_false] at hi
        rcases hi with rfl
        · refine ⟨_, rfl, ?_⟩
          refine OPS.store 1 _ rfl rfl rfl (size_run rfl) rfl (cA rfl) rfl rfl H rfl (by simp) ?_
          clear H; intro w H; try simp only [List.set_cons_zero, List.set_cons_succ, putL, Nat.zero_add] at H
          refine OPS.nil ?_
          refine ⟨(by exact H.drop ((List.sublist_cons_self _ _).trans (List.sublist_cons_self _ _))), ?_⟩
          refine OPH.all [17] (by kernel_rfl) (by simp) rfl ?_
          intro i hi; simp only [List.mem_cons, List.not_mem_nil, or_false] at hi
          rcases hi with rfl
          · refine ⟨_, rfl, ?_⟩
            refine OPS.store 0 _ rfl rfl rfl (size_run rfl) rfl (cA rfl) rfl rfl H rfl (by simp) ?_
            clear H; intro w H; try simp only [List.set_cons_zero, List.set_cons_succ, putL, Nat.zero_add] at H
            refine OPS.nil ?_
            refine ⟨(by exact H.drop ((List.sublist_cons_self _ _).trans (List.sublist_cons_self _ _))), ?_⟩
            refine OPH.done (by kernel_rfl) ?_
            exact ⟨(by repeat (first | exact Agree.refl _ _ | exact Agree.mix _ _ _ | refine Agree.upd rfl ?_ | refine Agree.mix2 rfl ?_)), g7, g8, rfl, rfl, H⟩
    · refine ⟨_, rfl, ?_⟩
      refine OPS.alloc rfl rfl rfl rfl (zero_run rfl) rfl H ?_
      clear H; intro g8 w H
      refine OPS.nil ?_
      refine ⟨(by exact H.drop (List.sublist_cons_self _ _)), ?_⟩
      refine OPH.all [14] (by kernel_rfl) (by simp) rfl ?_
      intro i hi; simp only [List.mem_cons, List.not_mem_nil, or_false] at hi
      rcases hi with rfl
      · refine ⟨_, rfl, ?_⟩
        refine OPS.alloc rfl rfl rfl rfl (zero_run rfl) rfl H ?_
        clear H; intro g7 w H
        refine OPS.nil ?_
        refine ⟨(by exact H.drop ((List.sublist_cons_self _ _).trans (List.sublist_cons_self _ _))), ?_⟩
        refine OPH.all [16] (by kernel_rfl) (by simp) rfl ?_
        intro i hi; simp only [List.mem_cons, List.not_mem_nil, or_false] at hi
        rcases hi with rfl
        · refine ⟨_, rfl, ?_⟩
          refine OPS.store 0 _ rfl rfl rfl (size_run rfl) rfl (cA rfl) rfl rfl H rfl (by simp) ?_
          clear H; intro w H; try simp only [List.set_cons_zero, List.set_cons_succ, putL, Nat.zero_add] at H
          refine OPS.nil ?_
          refine ⟨(by exact H.drop ((List.sublist_cons_self _ _).trans (List.sublist_cons_self _ _))), ?_⟩
          refine OPH.all [17] (by kernel_rfl) (by simp) rfl ?_
          intro i hi; simp only [List.mem_cons, List.not_mem_nil, or_false] at hi
          rcases hi with rfl
          · refine ⟨_, rfl, ?_⟩
            refine OPS.store 1 _ rfl rfl rfl (size_run rfl) rfl (cA rfl) rfl rfl H rfl (by simp) ?_
            clear H; intro w H; try simp only [List.set_cons_zero, List.set_cons_succ, putL, Nat.zero_add] at H
            refine OPS.nil ?_
            refine ⟨(by exact H.drop ((List.sublist_cons_self _ _).trans (List.sublist_cons_self _ _))), ?_⟩
            refine OPH.done (by kernel_rfl) ?_
            exact ⟨(by repeat (first | exact Agree.refl _ _ | exact Agree.mix _ _ _ | refine Agree.upd rfl ?_ | refine Agree.mix2 rfl ?_)), g7, g8, rfl, rfl, H.reidx [1, 0] (by decide) rfl⟩
  clear H
  rintro u w ⟨g7, g8, h7, h8, H⟩
  refine WP.know (t := 7) h7 (WP.know (t := 8) h8 ?_)
  refine WP.seq ?_
  refine WP.block ?_
  refine WP.seq ?_
  refine WP.rquiet mixed (by kernel_rfl) H ?_
  clear H; intro w hbw2 H
  refine OPS.val rfl rfl rfl (Ev.mvP rfl) ?_
  refine OPS.val rfl rfl rfl ((by exact Ev.nilCheckP rfl)) ?_
  refine OPS.val rfl rfl rfl (Ev.fieldAddr (fld_run rfl) rfl) ?_
  refine OPS.val rfl rfl rfl (Ev.load1 (agg_run rfl) rfl (by exact H.ld0 (by assumption))) ?_
  refine OPS.val rfl rfl rfl (Ev.fieldAddr (fld_run rfl) rfl) ?_
  refine OPS.val rfl rfl rfl ((by (change Ev _ _ _ _ (Op.load 150 (Operand.tmp 28)) _; exact Ev.loadN (labCells h[i]) (agg_run rfl) (size_run rfl) rfl (cellsAt_own H 1 rfl _ 0 (fun j hj => by match j with | 0 => rfl | 1 => rfl | 2 => rfl))))) ?_
  refine OPS.val rfl rfl rfl (Ev.fieldAddr (fld_run rfl) rfl) ?_
  refine OPS.val rfl rfl rfl ((by (change Ev _ _ _ _ (Op.load 150 (Operand.tmp 30)) _; exact Ev.loadN (labCells h[k]) (agg_run rfl) (size_run rfl) rfl (cellsAt_own H 0 rfl _ 0 (fun j hj => by match j with | 0 => rfl | 1 => rfl | 2 => rfl))))) ?_
  refine OPS.callq rfl rfl rfl (EvC.clos rfl (fun_run (by rfl))) (fun w2 hb2 => qLess _ _ _ _ _ _ _) ?_
  refine OPS.val rfl rfl rfl (Ev.asB rfl) ?_
  refine OPS.nilq H ?_
  clear H; intro w hbx2 H
  refine WP.cond rfl (fun hc2 => ?_) (fun hc2 => ?_)
  · refine WP.seq ?_
    refine WP.region ?_
    refine OPS.val rfl rfl rfl (Ev.asB rfl) ?_
    refine OPS.nil ?_
    refine WP.ret ⟨_, rfl, ?_⟩
    exact ⟨congrArg (fun b => Ending.returned (Bo b)) (show true = entLt h[i] h[k] from by simp only [entLt, hc2]; rfl), H.below⟩
  refine WP.seq ?_
  refine WP.rquiet mixed (by kernel_rfl) H ?_
  clear H; intro w hbw4 H
  refine OPS.val rfl rfl rfl (Ev.mvP rfl) ?_
  refine OPS.val rfl rfl rfl ((by exact Ev.nilCheckP rfl)) ?_
  refine OPS.val rfl rfl rfl (Ev.fieldAddr (fld_run rfl) rfl) ?_
  refine OPS.val rfl rfl rfl (Ev.load1 (agg_run rfl) rfl (by exact H.ld0 (by assumption))) ?_
  refine OPS.val rfl rfl rfl (Ev.fieldAddr (fld_run rfl) rfl) ?_
  refine OPS.val rfl rfl rfl ((by (change Ev _ _ _ _ (Op.load 150 (Operand.tmp 38)) _; exact Ev.loadN (labCells h[k]) (agg_run rfl) (size_run rfl) rfl (cellsAt_own H 0 rfl _ 0 (fun j hj => by match j with | 0 => rfl | 1 => rfl | 2 => rfl))))) ?_
  refine OPS.val rfl rfl rfl (Ev.fieldAddr (fld_run rfl) rfl) ?_
  refine OPS.val rfl rfl rfl ((by (change Ev _ _ _ _ (Op.load 150 (Operand.tmp 40)) _; exact Ev.loadN (labCells h[i]) (agg_run rfl) (size_run rfl) rfl (cellsAt_own H 1 rfl _ 0 (fun j hj => by match j with | 0 => rfl | 1 => rfl | 2 => rfl))))) ?_
  refine OPS.callq rfl rfl rfl (EvC.clos rfl (fun_run (by rfl))) (fun w2 hb2 => qLess _ _ _ _ _ _ _) ?_
  refine OPS.val rfl rfl rfl (Ev.asB rfl) ?_
  refine OPS.nilq H ?_
  clear H; intro w hbx4 H
  refine WP.cond rfl (fun hc4 => ?_) (fun hc4 => ?_)
  · refine WP.seq ?_
    refine WP.region ?_
    refine OPS.val rfl rfl rfl (Ev.asB rfl) ?_
    refine OPS.nil ?_
    refine WP.ret ⟨_, rfl, ?_⟩
    exact ⟨congrArg (fun b => Ending.returned (Bo b)) (show false = entLt h[i] h[k] from by simp only [entLt, hc2, hc4]; rfl), H.below⟩
  refine WP.skip ?_
  refine WP.seq ?_
  refine WP.region ?_
  refine OPS.val rfl rfl rfl (Ev.fieldAddr (fld_run rfl) rfl) ?_
  refine OPS.val rfl rfl rfl (Ev.load1 (agg_run rfl) rfl (by exact H.ldL 1 rfl _ rfl)) ?_
  refine OPS.val rfl rfl rfl (Ev.fieldAddr (fld_run rfl) rfl) ?_
  refine OPS.val rfl rfl rfl (Ev.load1 (agg_run rfl) rfl (by exact H.ldL 0 rfl _ rfl)) ?_
  refine OPS.val rfl rfl rfl (Ev.lss rfl rfl) ?_
  refine OPS.val rfl rfl rfl (Ev.asB rfl) ?_
  refine OPS.nil ?_
  refine WP.ret ⟨_, rfl, ?_⟩
  exact ⟨congrArg (fun b => Ending.returned (Bo b)) (show decide (h[i].n < h[k].n) = entLt h[i] h[k] from by simp only [entLt, hc2, hc4]; simp), H.below⟩
end Go.Proofs.Ytfddebpeiilohaa

/-
  Walk: the priority queue of stops: swap.
-/
set_option linter.all false
namespace Go.Proofs.Ytfddebpeiilohaa
open Go Go.W Go.RowKit

theorem putL_append : ∀ (vs a b : List Value) (k : Nat), k + vs.length ≤ a.length → putL (a ++ b) k vs = putL a k vs ++ b
  | [], _, _, _, _ => rfl
  | v :: vs, a, b, k, h => by
    simp only [List.length_cons] at h
    simp only [putL]
    rw [List.set_append_left _ _ (by omega)]
    exact putL_append vs (a.set k v) b (k + 1) (by simp; omega)
theorem putL_ents (h : List Ent) (sp : List Value) (k : Nat) (x : Ent) (hk : k < h.length) : putL (h.flatMap entCells ++ sp) (0 + k * 4) (entCells x) = (h.set k x).flatMap entCells ++ sp := by
  rw [Nat.zero_add, putL_append _ _ _ _ (by rw [rows_length entCells_len, entCells_len]; omega), putL_rows entCells_len h k x hk]
def qBlks (gq ga : Nat) (h : List Ent) (cap : Nat) (p : Int) (sp : List Value) : List Blk := [⟨gq, 158, qCells (some ⟨ga, 0, none⟩) h.length cap p⟩, ⟨ga, 160, h.flatMap entCells ++ sp⟩]

set_option maxHeartbeats 400000 in
theorem qSwap (gq ga cap i k : Nat) (p : Int) (h : List Ent) (sp : List Value) (w0 : World) (hi : i < h.length) (hk : k < h.length) (H0 : SH w0 [gq, ga] w0 (qBlks gq ga h cap p sp)) :
    Calls Try.prog 104 #[.pointer (some ⟨gq, 0, none⟩), I i, I k] w0 fun e w' => e = .returned (.tuple #[]) ∧ SH w0 [gq, ga] w' (qBlks gq ga (swapL h i k) cap p sp) := by
  have Hf := H0
  unfold qBlks qCells at Hf
  have H := Hf.reidx (L' := [⟨gq, 158, qCells (some ⟨ga, 0, none⟩) h.length cap p⟩]) [0] (by decide) rfl
  unfold qCells at H
  refine Calls.ofWP Try.func104 rfl Try.results104 Try.ntmps104 rfl ?_
  refine WP.rheldC [6, 7, 8, 9, 10, 11, 12, 13, 14, 15, 16, 17, 18, 19, 20, 21, 22, 23, 24, 25, 26, 27, 28, 29, 30, 31] (fun _ w' => SH w0 [gq, ga] w' (qBlks gq ga (swapL h i k) cap p sp)) mixed H ?_ ?_
  · clear H; intro w hbw0 H
    refine OPH.take 0 rfl rfl rfl rfl (by kernel_rfl) (by kernel_rfl) (by kernel_rfl) rfl (by exact H) (fun w H => Ev.mvP rfl) ?_
    refine OPH.take 1 rfl rfl rfl rfl (by kernel_rfl) (by kernel_rfl) (by kernel_rfl) rfl (by exact H) (fun w H => (by exact Ev.nilCheckP rfl)) ?_
    refine OPH.take 2 rfl rfl rfl rfl (by kernel_rfl) (by kernel_rfl) (by kernel_rfl) rfl (by exact H) (fun w H => Ev.fieldAddr (fld_run rfl) rfl) ?_
    refine OPH.take 3 rfl rfl rfl rfl (by kernel_rfl) (by kernel_rfl) (by kernel_rfl) rfl (by exact H) (fun w H => Ev.load1 (agg_run rfl) rfl (by exact H.ldL 0 rfl _ rfl)) ?_
    refine OPH.take 4 rfl rfl rfl rfl (by kernel_rfl) (by kernel_rfl) (by kernel_rfl) rfl (by exact H) (fun w H => Ev.mvI rfl) ?_
    refine OPH.take 5 rfl rfl rfl rfl (by kernel_rfl) (by kernel_rfl) (by kernel_rfl) rfl (by exact H) (fun w H => Ev.mvP rfl) ?_
    refine OPH.take 6 rfl rfl rfl rfl (by kernel_rfl) (by kernel_rfl) (by kernel_rfl) rfl (by exact H) (fun w H => (by exact Ev.nilCheckP rfl)) ?_
    refine OPH.take 7 rfl rfl rfl rfl (by kernel_rfl) (by kernel_rfl) (by kernel_rfl) rfl (by exact H) (fun w H => Ev.fieldAddr (fld_run rfl) rfl) ?_
    refine OPH.take 8 rfl rfl rfl rfl (by kernel_rfl) (by kernel_rfl) (by kernel_rfl) rfl (by exact H) (fun w H => Ev.load1 (agg_run rfl) rfl (by exact H.ldL 0 rfl _ rfl)) ?_
    refine OPH.take 9 rfl rfl rfl rfl (by kernel_rfl) (by kernel_rfl) (by kernel_rfl) rfl (by exact H) (fun w H => Ev.mvI rfl) ?_
    refine OPH.take 10 rfl rfl rfl rfl (by kernel_rfl) (by kernel_rfl) (by kernel_rfl) rfl (by exact H) (fun w H => Ev.mvP rfl) ?_
    refine OPH.take 11 rfl rfl rfl rfl (by kernel_rfl) (by kernel_rfl) (by kernel_rfl) rfl (by exact H) (fun w H => (by exact Ev.nilCheckP rfl)) ?_
    refine OPH.take 12 rfl rfl rfl rfl (by kernel_rfl) (by kernel_rfl) (by kernel_rfl) rfl (by exact H) (fun w H => Ev.fieldAddr (fld_run rfl) rfl) ?_
    refine OPH.take 13 rfl rfl rfl rfl (by kernel_rfl) (by kernel_rfl) (by kernel_rfl) rfl (by exact H) (fun w H => Ev.load1 (agg_run rfl) rfl (by exact H.ldL 0 rfl _ rfl)) ?_
    refine OPH.take 14 rfl rfl rfl rfl (by kernel_rfl) (by kernel_rfl) (by kernel_rfl) rfl (by exact H) (fun w H => Ev.mvI rfl) ?_
    refine OPH.take 15 rfl rfl rfl rfl (by kernel_rfl) (by kernel_rfl) (by kernel_rfl) rfl (by exact H) (fun w H => (by exact Ev.indexAddr (el_run rfl) (size_run rfl) rfl rfl rfl (by omega))) ?_
    refine OPH.take 17 rfl rfl rfl rfl (by kernel_rfl) (by kernel_rfl) (by kernel_rfl) rfl (by exact H) (fun w H => Ev.mvP rfl) ?_
    refine OPH.take 18 rfl rfl rfl rfl (by kernel_rfl) (by kernel_rfl) (by kernel_rfl) rfl (by exact H) (fun w H => (by exact Ev.nilCheckP rfl)) ?_
    refine OPH.take 19 rfl rfl rfl rfl (by kernel_rfl) (by kernel_rfl) (by kernel_rfl) rfl (by exact H) (fun w H => Ev.fieldAddr (fld_run rfl) rfl) ?_
    refine OPH.take 20 rfl rfl rfl rfl (by kernel_rfl) (by kernel_rfl) (by kernel_rfl) rfl (by exact H) (fun w H => Ev.load1 (agg_run rfl) rfl (by exact H.ldL 0 rfl _ rfl)) ?_
    refine OPH.take 21 rfl rfl rfl rfl (by kernel_rfl) (by kernel_rfl) (by kernel_rfl) rfl (by exact H) (fun w H => Ev.mvI rfl) ?_
    refine OPH.take 22 rfl rfl rfl rfl (by kernel_rfl) (by kernel_rfl) (by kernel_rfl) rfl (by exact H) (fun w H => (by exact Ev.indexAddr (el_run rfl) (size_run rfl) rfl rfl rfl (by omega))) ?_
    refine OPH.all [16, 23] (by kernel_rfl) (by simp) rfl ?_
    intro i hi; simp only [List.mem_cons, List.not_mem_nil, or_false] at hi
    rcases hi with rfl | rfl
    · refine ⟨_, rfl, ?_⟩
      try replace Hf := Hf.toBelow hbw0
      have hx := rowsOwn entCells_len Hf 1 rfl k hk
      obtain ⟨_, _, e1, hx⟩ := hx
      cases e1
      refine OPS.val rfl rfl rfl (by refine Ev.loadN (b := ga) (o := 0 + k * 4) (entCells h[k]) ?_ ?_ ?_ hx; exact agg_run rfl; exact size_run rfl; rfl) ?_
      refine OPS.nil ?_
      refine ⟨(by exact H), ?_⟩
      refine OPH.all [23] (by kernel_rfl) (by simp) rfl ?_
      intro i hi; simp only [List.mem_cons, List.not_mem_nil, or_false] at hi
      rcases hi with rfl
      · refine ⟨_, rfl, ?_⟩
        try replace Hf := Hf.toBelow hbw0
        have hx := rowsOwn entCells_len Hf 1 rfl i hi
        obtain ⟨_, _, e1, hx⟩ := hx
        cases e1
        refine OPS.val rfl rfl rfl (by refine Ev.loadN (b := ga) (o := 0 + i * 4) (entCells h[i]) ?_ ?_ ?_ hx; exact agg_run rfl; exact size_run rfl; rfl) ?_
        refine OPS.nil ?_
        refine ⟨(by exact H), ?_⟩
        refine OPH.take 24 rfl rfl rfl rfl (by kernel_rfl) (by kernel_rfl) (by kernel_rfl) rfl (by exact H) (fun w H => (by exact Ev.indexAddr (el_run rfl) (size_run rfl) rfl rfl rfl (by omega))) ?_
        refine OPH.all [25] (by kernel_rfl) (by simp) rfl ?_
        intro i hi; simp only [List.mem_cons, List.not_mem_nil, or_false] at hi
        rcases hi with rfl
        · refine ⟨_, rfl, ?_⟩
          refine OPS.store 1 _ rfl rfl rfl (size_run rfl) rfl (cA rfl) rfl rfl Hf rfl (by rw [List.length_append, rows_length entCells_len]; omega) ?_
          clear H Hf; intro w Hf
          replace Hf : SH w0 [gq, ga] w [⟨gq, 158, qCells (some ⟨ga, 0, none⟩) h.length cap p⟩, ⟨ga, 160, putL (h.flatMap entCells ++ sp) (0 + i * 4) (entCells h[k])⟩] := Hf
          rw [putL_ents h sp i _ hi] at Hf
          have H := Hf.reidx (L' := [⟨gq, 158, qCells (some ⟨ga, 0, none⟩) h.length cap p⟩]) [0] (by decide) rfl
          unfold qCells at H
          refine OPS.nil ?_
          refine ⟨(by exact H), ?_⟩
          refine OPH.take 26 rfl rfl rfl rfl (by kernel_rfl) (by kernel_rfl) (by kernel_rfl) rfl (by exact H) (fun w H => (by exact Ev.indexAddr (el_run rfl) (size_run rfl) rfl rfl rfl (by omega))) ?_
          refine OPH.all [27] (by kernel_rfl) (by simp) rfl ?_
          intro i hi; simp only [List.mem_cons, List.not_mem_nil, or_false] at hi
          rcases hi with rfl
          · refine ⟨_, rfl, ?_⟩
            refine OPS.store 1 _ rfl rfl rfl (size_run rfl) rfl (cA rfl) rfl rfl Hf rfl (by rw [List.length_append, rows_length entCells_len, List.length_set]; omega) ?_
            clear H Hf; intro w Hf
            replace Hf : SH w0 [gq, ga] w [⟨gq, 158, qCells (some ⟨ga, 0, none⟩) h.length cap p⟩, ⟨ga, 160, putL ((h.set i h[k]).flatMap entCells ++ sp) (0 + k * 4) (entCells h[i])⟩] := Hf
            rw [putL_ents _ sp k _ (by rw [List.length_set]; exact hk)] at Hf
            have H := Hf.reidx (L' := [⟨gq, 158, qCells (some ⟨ga, 0, none⟩) h.length cap p⟩]) [0] (by decide) rfl
            unfold qCells at H
            have hsw : swapL h i k = (h.set i h[k]).set k h[i] := by simp [swapL, hi, hk]
            refine OPS.nil ?_
            refine ⟨(by exact H), ?_⟩
            refine OPH.done (by kernel_rfl) ?_
            exact ⟨(by repeat (first | exact Agree.refl _ _ | exact Agree.mix _ _ _ | refine Agree.upd rfl ?_ | refine Agree.mix2 rfl ?_)), by rw [qBlks, swapL_length, hsw]; exact Hf⟩
    · refine ⟨_, rfl, ?_⟩
      try replace Hf := Hf.toBelow hbw0
      have hx := rowsOwn entCells_len Hf 1 rfl i hi
      obtain ⟨_, _, e1, hx⟩ := hx
      cases e1
      refine OPS.val rfl rfl rfl (by refine Ev.loadN (b := ga) (o := 0 + i * 4) (entCells h[i]) ?_ ?_ ?_ hx; exact agg_run rfl; exact size_run rfl; rfl) ?_
      refine OPS.nil ?_
      refine ⟨(by exact H), ?_⟩
      refine OPH.all [16] (by kernel_rfl) (by simp) rfl ?_
      intro i hi; simp only [List.mem_cons, List.not_mem_nil, or_false] at hi
      rcases hi with rfl
      · refine ⟨_, rfl, ?_⟩
        try replace Hf := Hf.toBelow hbw0
        have hx := rowsOwn entCells_len Hf 1 rfl k hk
        obtain ⟨_, _, e1, hx⟩ := hx
        cases e1
        refine OPS.val rfl rfl rfl (by refine Ev.loadN (b := ga) (o := 0 + k * 4) (entCells h[k]) ?_ ?_ ?_ hx; exact agg_run rfl; exact size_run rfl; rfl) ?_
        refine OPS.nil ?_
        refine ⟨(by exact H), ?_⟩
        refine OPH.take 24 rfl rfl rfl rfl (by kernel_rfl) (by kernel_rfl) (by kernel_rfl) rfl (by exact H) (fun w H => (by exact Ev.indexAddr (el_run rfl) (size_run rfl) rfl rfl rfl (by omega))) ?_
        refine OPH.all [25] (by kernel_rfl) (by simp) rfl ?_
        intro i hi; simp only [List.mem_cons, List.not_mem_nil, or_false] at hi
        rcases hi with rfl
        · refine ⟨_, rfl, ?_⟩
          refine OPS.store 1 _ rfl rfl rfl (size_run rfl) rfl (cA rfl) rfl rfl Hf rfl (by rw [List.length_append, rows_length entCells_len]; omega) ?_
          clear H Hf; intro w Hf
          replace Hf : SH w0 [gq, ga] w [⟨gq, 158, qCells (some ⟨ga, 0, none⟩) h.length cap p⟩, ⟨ga, 160, putL (h.flatMap entCells ++ sp) (0 + i * 4) (entCells h[k])⟩] := Hf
          rw [putL_ents h sp i _ hi] at Hf
          have H := Hf.reidx (L' := [⟨gq, 158, qCells (some ⟨ga, 0, none⟩) h.length cap p⟩]) [0] (by decide) rfl
          unfold qCells at H
          refine OPS.nil ?_
          refine ⟨(by exact H), ?_⟩
          refine OPH.take 26 rfl rfl rfl rfl (by kernel_rfl) (by kernel_rfl) (by kernel_rfl) rfl (by exact H) (fun w H => (by exact Ev.indexAddr (el_run rfl) (size_run rfl) rfl rfl rfl (by omega))) ?_
          refine OPH.all [27] (by kernel_rfl) (by simp) rfl ?_
          intro i hi; simp only [List.mem_cons, List.not_mem_nil, or_false] at hi
          rcases hi with rfl
          · refine ⟨_, rfl, ?_⟩
            refine OPS.store 1 _ rfl rfl rfl (size_run rfl) rfl (cA rfl) rfl rfl Hf rfl (by rw [List.length_append, rows_length entCells_len, List.length_set]; omega) ?_
            clear H Hf; intro w Hf
            replace Hf : SH w0 [gq, ga] w [⟨gq, 158, qCells (some ⟨ga, 0, none⟩) h.length cap p⟩, ⟨ga, 160, putL ((h.set i h[k]).flatMap entCells ++ sp) (0 + k * 4) (entCells h[i])⟩] := Hf
            rw [putL_ents _ sp k _ (by rw [List.length_set]; exact hk)] at Hf
            have H := Hf.reidx (L' := [⟨gq, 158, qCells (some ⟨ga, 0, none⟩) h.length cap p⟩]) [0] (by decide) rfl
            unfold qCells at H
            have hsw : swapL h i k = (h.set i h[k]).set k h[i] := by simp [swapL, hi, hk]
            refine OPS.nil ?_
            refine ⟨(by exact H), ?_⟩
            refine OPH.done (by kernel_rfl) ?_
            exact ⟨(by repeat (first | exact Agree.refl _ _ | exact Agree.mix _ _ _ | refine Agree.upd rfl ?_ | refine Agree.mix2 rfl ?_)), by rw [qBlks, swapL_length, hsw]; exact Hf⟩
  clear H
  rintro u w H
  refine ⟨_, rfl, ?_⟩
  exact ⟨rfl, H⟩
end Go.Proofs.Ytfddebpeiilohaa

/-
  Walks: the priority queue of stops: Peek, New.
-/
set_option linter.all false
namespace Go.Proofs.Ytfddebpeiilohaa
open Go Go.W Go.RowKit

def labV (x : Ent) : Value := .agg (labCells x).toArray
def peekV (h : List Ent) : Value := .tuple #[labV (h.headD ⟨0, 0, 0, 0⟩), .bool (!h.isEmpty)]
theorem qPeek (gq cap : Nat) (A : Option Addr) (p : Int) (h : List Ent) (w0 : World) (hq : cellsAt w0 gq 0 (qCells A h.length cap p)) (hr : RowsAt 4 entCells w0 A h) :
    Calls Try.prog 105 #[.pointer (some ⟨gq, 0, none⟩)] w0 fun e w' => e = .returned (peekV h) ∧ Below w0.heap.size w0 w' := by
  have H := SH.refl w0
  have hq' := hq
  obtain ⟨q0, q1, q2, _⟩ := hq
  refine Calls.ofWPc Try.func105 rfl Try.results105 Try.ntmps105 rfl ?_
  refine WP.seq ?_
  refine WP.region ?_
  refine OPS.alloc rfl rfl rfl rfl (zero_run rfl) rfl H ?_
  clear H; intro g2 w H
  refine OPS.val rfl rfl rfl (Ev.asB rfl) ?_
  refine OPS.nil ?_
  refine WP.seq ?_
  refine WP.seq ?_
  refine WP.region ?_
  refine OPS.val rfl rfl rfl (Ev.mvP rfl) ?_
  refine OPS.call (d := some 6) rfl rfl rfl (EvC.func (fun_run rfl)) (qLen gq h.length cap A p _ (cellsAt_sh H hq')) ?_
  rintro _ w ⟨rfl, hb⟩
  refine ⟨_, rfl, ?_⟩
  replace H := H.toBelow hb; clear hb
  refine OPS.val rfl rfl rfl (Ev.eql rfl rfl) ?_
  refine OPS.nil ?_
  refine WP.cond rfl (fun hc1 => ?_) (fun hc1 => ?_)
  · have h0 : h = [] := List.length_eq_zero_iff.1 (by simp at hc1; simp [hc1])
    subst h0
    refine WP.seq ?_
    refine WP.region ?_
    refine OPS.alloc rfl rfl rfl rfl (zero_run rfl) rfl H ?_
    clear H; intro g4 w H
    refine OPS.nil ?_
    refine WP.seq ?_
    refine WP.region ?_
    refine OPS.val rfl rfl rfl ((by exact Ev.loadO 0 H rfl (agg_run rfl) (size_run rfl) (by rfl) rfl)) ?_
    refine OPS.store 1 _ rfl rfl rfl (size_run rfl) rfl (cA rfl) rfl rfl H rfl (by simp) ?_
    clear H; intro w H; try simp only [List.set_cons_zero, List.set_cons_succ, putL, Nat.zero_add] at H
    refine OPS.val rfl rfl rfl (Ev.asB rfl) ?_
    refine OPS.nil ?_
    refine WP.ret ⟨[_, _], ⟨(by exact resCellA 1 H rfl (agg_run rfl) (size_run rfl) (by rfl) rfl), rfl, trivial⟩, ?_⟩
    exact ⟨rfl, H.below⟩
  have hpos : 0 < h.length := by simp at hc1; exact List.length_pos_iff.2 hc1
  obtain ⟨b, o, rfl, hx⟩ := hr 0 hpos
  obtain ⟨x, l, rfl⟩ : ∃ x l, h = x :: l := by
    cases h with
    | nil => exact absurd hpos (by simp)
    | cons x l => exact ⟨x, l, rfl⟩
  obtain ⟨x0, x1, x2, x3, _⟩ := cellsAt_sh H hx
  refine WP.skip ?_
  refine WP.seq ?_
  refine WP.region ?_
  refine OPS.val rfl rfl rfl (Ev.mvP rfl) ?_
  refine OPS.val rfl rfl rfl ((by exact Ev.nilCheckP rfl)) ?_
  refine OPS.val rfl rfl rfl (Ev.fieldAddr (fld_run rfl) rfl) ?_
  refine OPS.val rfl rfl rfl (Ev.load1 (agg_run rfl) rfl (by exact H.ld0 (by assumption))) ?_
  refine OPS.val rfl rfl rfl (Ev.indexAddr (j := 0) (el_run rfl) (size_run rfl) rfl rfl rfl hpos) ?_
  refine OPS.val rfl rfl rfl (Ev.fieldAddr (fld_run rfl) rfl) ?_
  refine OPS.val rfl rfl rfl (by refine Ev.loadN (b := b) (o := o + 0 * 4 + 0) (labCells x) ?_ ?_ ?_ ⟨x0, x1, x2, trivial⟩; exact agg_run rfl; exact size_run rfl; rfl) ?_
  refine OPS.store 0 _ rfl rfl rfl (size_run rfl) rfl (cA rfl) rfl rfl H rfl (by simp) ?_
  clear H; intro w H; try simp only [List.set_cons_zero, List.set_cons_succ, putL, Nat.zero_add] at H
  refine OPS.val rfl rfl rfl (Ev.asB rfl) ?_
  refine OPS.nil ?_
  refine WP.ret ⟨[_, _], ⟨(by exact resCellA 0 H rfl (agg_run rfl) (size_run rfl) (by rfl) rfl), rfl, trivial⟩, ?_⟩
  exact ⟨rfl, H.below⟩
theorem qNew (w0 : World) :
    Calls Try.prog 98 #[.func (.func 99) #[] #[]] w0 fun e w' => ∃ g, e = .returned (.pointer (some ⟨g, 0, none⟩)) ∧ SH w0 [] w' [⟨g, 158, qCells none 0 0 0⟩] := by
  have H := SH.refl w0
  refine Calls.ofWP Try.func98 rfl Try.results98 Try.ntmps98 rfl ?_
  refine WP.seq ?_
  refine WP.region ?_
  refine OPS.val rfl rfl rfl (Ev.asP rfl) ?_
  refine OPS.nil ?_
  refine WP.seq ?_
  refine WP.seq ?_
  refine WP.region ?_
  refine OPS.val rfl rfl rfl (Ev.mvF rfl) ?_
  refine OPS.val rfl rfl rfl (Ev.eqlFn Try.runUnderlying152 rfl rfl) ?_
  refine OPS.nil ?_
  refine WP.cond_f rfl ?_
  refine WP.skip ?_
  refine WP.seq ?_
  refine WP.region ?_
  refine OPS.val rfl rfl rfl (Ev.mvF rfl) ?_
  refine OPS.val rfl rfl rfl (Ev.build (bld_158_0 rfl)) ?_
  refine OPS.box rfl rfl rfl rfl (cA rfl) H ?_
  clear H; intro g7 w H
  refine OPS.val rfl rfl rfl (Ev.asP rfl) ?_
  refine OPS.nil ?_
  refine WP.ret ⟨_, rfl, ?_⟩
  exact ⟨_, rfl, H⟩
end Go.Proofs.Ytfddebpeiilohaa

/-
  Walk: the priority queue of stops: sink.
-/
set_option linter.all false
namespace Go.Proofs.Ytfddebpeiilohaa
open Go Go.W Go.RowKit

theorem entLtOk : LtOk entLt := ⟨fun x y h => by unfold entLt legLt at *; simp at *; omega, fun x y z h1 h2 => by unfold entLt legLt at *; simp at *; omega⟩
theorem qBeforeI (gq ga cap i k : Nat) (x y p : Int) (h : List Ent) (sp : List Value) (w0 w : World) (S : List Nat) (L : List Blk) (hx : x = i) (hy : y = k) (H : SH w0 S w L) (h0 : L[0]? = some ⟨gq, 158, qCells (some ⟨ga, 0, none⟩) h.length cap p⟩) (h1 : L[1]? = some ⟨ga, 160, h.flatMap entCells ++ sp⟩) (hi : i < h.length) (hk : k < h.length) :
    Calls Try.prog 103 #[.pointer (some ⟨gq, 0, none⟩), I x, I y] w fun e w' => e = .returned (.bool (entLt (h.getD i default) (h.getD k default))) ∧ Below w.heap.size w w' := by
  subst hx hy
  have e1 : h.getD i default = h[i] := by simp [hi]
  have e2 : h.getD k default = h[k] := by simp [hk]
  rw [e1, e2]
  exact qBefore gq cap i k (some ⟨ga, 0, none⟩) p h w (cellsAt_own H 0 h0 _ 0 fun j hj => by rw [Nat.zero_add]; exact List.getElem?_eq_getElem hj) (rowsOwn entCells_len H 1 h1) hi hk
theorem qSwapI (gq ga cap i k : Nat) (x y p : Int) (h : List Ent) (sp : List Value) (w0 w : World) (S : List Nat) (hx : x = i) (hy : y = k) (H : SH w0 S w (qBlks gq ga h cap p sp)) (hi : i < h.length) (hk : k < h.length) :
    Calls Try.prog 104 #[.pointer (some ⟨gq, 0, none⟩), I x, I y] w fun e w' => e = .returned (.tuple #[]) ∧ SH w0 S w' (qBlks gq ga (swapL h i k) cap p sp) := by
  subst hx hy
  refine (qSwap gq ga cap i k p h sp w hi hk (H.restart (List.Sublist.refl _))).mono fun e w' ⟨he, Hc⟩ => ⟨he, ?_⟩
  exact SH.call (L1 := []) (Lv := qBlks gq ga h cap p sp) H Hc

set_option maxHeartbeats 400000 in
theorem qSink (gq ga cap : Nat) (p : Int) (h : List Ent) (sp : List Value) (w0 : World) (S : List Nat) (hd : DownOk entLt h 0) (hl : h.length ≤ 1000000000) (H0 : SH w0 S w0 (qBlks gq ga h cap p sp)) :
    Calls Try.prog 106 #[.pointer (some ⟨gq, 0, none⟩)] w0 fun e w' => e = .returned (.tuple #[]) ∧ ∃ h' : List Ent, h'.Perm h ∧ HeapOk entLt h' ∧ SH w0 S w' (qBlks gq ga h' cap p sp) := by
  have H := H0
  refine Calls.ofWP Try.func106 rfl Try.results106 Try.ntmps106 rfl ?_
  refine WP.seq ?_
  refine WP.region ?_
  refine OPS.val rfl rfl rfl (Ev.asI rfl) ?_
  refine OPS.nil ?_
  refine WP.block ?_
  refine WP.loop [2, 3, 4, 5, 6, 7, 8, 9, 10, 11, 12, 13, 14, 15, 16, 17, 18, 19, 20, 21, 22, 23, 24, 25, 26, 27, 28, 29, 30, 31, 32, 33, 34, 35, 36, 37] (fun g e w' => ∃ (i : Nat) (h1 : List Ent), e 2 = I i ∧ SH w0 S w' (qBlks gq ga h1 cap p sp) ∧ h1.Perm h ∧ DownOk entLt h1 i ∧ (i < h.length ∨ h = []) ∧ i + g = h.length) (h.length) (⟨0, h, rfl, H, List.Perm.refl _, hd, by cases h with | nil => exact .inr rfl | cons x t => exact .inl (by simp), by omega⟩) ?_
  clear H
  rintro g u w ⟨i, h1, h2, H, hp, hd1, hi, hg⟩
  refine WP.know (t := 2) h2 ?_
  have hlen := hp.length_eq
  unfold qBlks qCells at H
  refine WP.block ?_
  refine WP.seq ?_
  refine WP.region ?_
  refine OPS.val rfl rfl rfl (Ev.mvI rfl) ?_
  refine OPS.val rfl rfl rfl (Ev.asI rfl) ?_
  refine OPS.nil ?_
  refine WP.seq ?_
  refine WP.seq ?_
  refine WP.region ?_
  refine OPS.val rfl rfl rfl (Ev.mvI rfl) ?_
  refine OPS.val rfl rfl rfl (Ev.mul rfl rfl (by unfold fits; omega)) ?_
  refine OPS.val rfl rfl rfl (Ev.add rfl rfl (by unfold fits; omega)) ?_
  refine OPS.val rfl rfl rfl (Ev.asI rfl) ?_
  refine OPS.nil ?_
  refine WP.block ?_
  refine WP.loop [3, 4, 9, 10, 11, 12, 13, 14, 15, 16, 17, 18, 19, 20, 21, 22, 23, 24, 25, 26, 27, 28, 29] (fun g2 e w' => ∃ k f : Nat, e 4 = I k ∧ e 3 = I f ∧ SH w0 S w' (qBlks gq ga h1 cap p sp) ∧ FirstOk entLt h1 i k f ∧ 2 * i + 1 ≤ k ∧ k + g2 = 2 * i + 3) (2) (⟨2 * i + 1, i, rfl, rfl, H, FirstOk.start entLtOk h1 i, by omega, by omega⟩) ?_
  clear H
  rintro g2 u2 w ⟨k, f, h4, h3, H, hF, hk1, hk2⟩
  refine WP.know (t := 4) h4 (WP.know (t := 3) h3 ?_)
  unfold qBlks qCells at H
  refine WP.seq ?_
  refine WP.seq ?_
  refine WP.region ?_
  refine OPS.val rfl rfl rfl (Ev.mvI rfl) ?_
  refine OPS.val rfl rfl rfl (Ev.mvI rfl) ?_
  refine OPS.val rfl rfl rfl (Ev.mul rfl rfl (by unfold fits; omega)) ?_
  refine OPS.val rfl rfl rfl (Ev.add rfl rfl (by unfold fits; omega)) ?_
  refine OPS.val rfl rfl rfl (Ev.leq rfl rfl) ?_
  refine OPS.val rfl rfl rfl (Ev.mvB rfl) ?_
  refine OPS.gval rfl rfl rfl rfl rfl (fun hg => Ev.mvI (by rfl)) ?_
  refine OPS.gval rfl rfl rfl rfl rfl (fun hg => Ev.mvP (by rfl)) ?_
  refine OPS.gval rfl rfl rfl rfl rfl (fun hg => (by exact Ev.nilCheckP (by exact gvE hg rfl))) ?_
  refine OPS.gval rfl rfl rfl rfl rfl (fun hg => Ev.fieldAddr (fld_run rfl) (by exact gvE hg rfl)) ?_
  refine OPS.gval rfl rfl rfl rfl rfl (fun hg => Ev.load1 (agg_run rfl) (by exact gvE hg rfl) (by exact H.ldL 0 rfl _ rfl)) ?_
  refine OPS.gval rfl rfl rfl rfl rfl (fun hg => Ev.len (el_run rfl) (by exact gvE hg rfl)) ?_
  refine OPS.gval rfl rfl rfl rfl rfl (fun hg => Ev.lss (by exact gvE hg rfl) (by exact gvE hg rfl)) ?_
  refine OPS.val rfl rfl rfl ((by exact Ev.pickAnd rfl rfl rfl)) ?_
  refine OPS.nil ?_
  refine WP.cond rfl (fun hc3 => ?_) (fun hc3 => ?_)
  · have hkl : k ≤ 2 * i + 2 ∧ k < h1.length := by simp at hc3; omega
    have hfl : f < h1.length := by rcases hF.place with q | q <;> omega
    refine WP.skip ?_
    refine WP.seq ?_
    refine WP.block ?_
    refine WP.seq ?_
    refine WP.region ?_
    refine OPS.val rfl rfl rfl (Ev.mvP rfl) ?_
    refine OPS.val rfl rfl rfl (Ev.mvI rfl) ?_
    refine OPS.val rfl rfl rfl (Ev.mvI rfl) ?_
    refine OPS.call (d := some 28) rfl rfl rfl (EvC.func (fun_run rfl)) (qBeforeI gq ga cap k f _ _ p h1 sp w0 w S _ rfl rfl H rfl rfl hkl.2 hfl) ?_
    rintro _ w ⟨rfl, hb⟩
    refine ⟨_, rfl, ?_⟩
    replace H := H.toBelow hb; clear hb
    refine OPS.nil ?_
    refine WP.cond rfl (fun hc5 => ?_) (fun hc5 => ?_)
    · have hF2 := hF.take entLtOk (by omega) hkl.2 (by omega) hc5
      refine WP.region ?_
      refine OPS.val rfl rfl rfl (Ev.mvI rfl) ?_
      refine OPS.val rfl rfl rfl (Ev.asI rfl) ?_
      refine OPS.nil ?_
      refine WP.region ?_
      refine OPS.val rfl rfl rfl (Ev.mvI rfl) ?_
      refine OPS.val rfl rfl rfl (Ev.add rfl rfl (by unfold fits; omega)) ?_
      refine OPS.val rfl rfl rfl (Ev.asI rfl) ?_
      refine OPS.nil ?_
      exact ⟨(by repeat (first | exact Agree.refl _ _ | exact Agree.mix _ _ _ | refine Agree.upd rfl ?_ | refine Agree.mix2 rfl ?_)), g2 - 1, by omega, k + 1, _, rfl, rfl, H, hF2, by omega, by omega⟩
    have hF2 := hF.keep hc5
    refine WP.skip ?_
    refine WP.region ?_
    refine OPS.val rfl rfl rfl (Ev.mvI rfl) ?_
    refine OPS.val rfl rfl rfl (Ev.add rfl rfl (by unfold fits; omega)) ?_
    refine OPS.val rfl rfl rfl (Ev.asI rfl) ?_
    refine OPS.nil ?_
    exact ⟨(by repeat (first | exact Agree.refl _ _ | exact Agree.mix _ _ _ | refine Agree.upd rfl ?_ | refine Agree.mix2 rfl ?_)), g2 - 1, by omega, k + 1, _, rfl, rfl, H, hF2, by omega, by omega⟩
  have hdn : 2 * i + 2 < k ∨ h1.length ≤ k := by simp at hc3; omega
  have hall := hF.done hdn
  refine WP.exit ?_
  refine XB.hit ?_
  refine WP.seq ?_
  refine WP.seq ?_
  refine WP.region ?_
  refine OPS.val rfl rfl rfl (Ev.mvI rfl) ?_
  refine OPS.val rfl rfl rfl (Ev.mvI rfl) ?_
  refine OPS.val rfl rfl rfl (Ev.eql rfl rfl) ?_
  refine OPS.nil ?_
  refine WP.cond rfl (fun hc7 => ?_) (fun hc7 => ?_)
  · refine WP.ret ⟨_, rfl, ?_⟩
    have hfi : f = i := by simp at hc7; omega
    subst hfi
    exact ⟨rfl, h1, hp, hd1.done hall, H⟩
  have hfi : f ≠ i := by simp at hc7; omega
  obtain ⟨q1, q2, q3⟩ : 0 < f ∧ (f - 1) / 2 = i ∧ f < h1.length := by rcases hF.place with q | q; exact absurd q hfi; exact q
  have hil : i < h1.length := by omega
  refine WP.skip ?_
  refine WP.seq ?_
  refine WP.region ?_
  refine OPS.val rfl rfl rfl (Ev.mvP rfl) ?_
  refine OPS.val rfl rfl rfl (Ev.mvI rfl) ?_
  refine OPS.val rfl rfl rfl (Ev.mvI rfl) ?_
  refine OPS.call (d := some 36) rfl rfl rfl (EvC.func (fun_run rfl)) (qSwapI gq ga cap i f _ _ p h1 sp w0 w S rfl rfl H hil q3) ?_
  rintro _ w ⟨rfl, H2⟩
  refine ⟨_, rfl, ?_⟩
  replace H := H2; clear H2
  refine OPS.nil ?_
  refine WP.region ?_
  refine OPS.val rfl rfl rfl (Ev.mvI rfl) ?_
  refine OPS.val rfl rfl rfl (Ev.asI rfl) ?_
  refine OPS.nil ?_
  exact ⟨(by repeat (first | exact Agree.refl _ _ | exact Agree.mix _ _ _ | refine Agree.upd rfl ?_ | refine Agree.mix2 rfl ?_)), h.length - f, by omega, f, swapL h1 i f, rfl, H, (swapL_perm hil q3).trans hp, hd1.step hil q3 q1 q2 hF.le hall, .inl (by omega), by omega⟩
end Go.Proofs.Ytfddebpeiilohaa

/-
  Walk: the priority queue of stops: Push.
-/
set_option linter.all false
namespace Go.Proofs.Ytfddebpeiilohaa
open Go Go.W Go.RowKit

abbrev QOwn (A : Option Addr) (cap : Nat) (h : List Ent) (Lo : List Blk) : Prop := OwnS A cap h.length (h.flatMap entCells) 160 4 Lo
/-- the blocks of a queue -/
def qLv (gq : Nat) (A : Option Addr) (cap : Nat) (h : List Ent) (p : Int) (Lo : List Blk) : List Blk := ⟨gq, 158, qCells A h.length cap p⟩ :: Lo
theorem entCells_one (h : List Ent) : ((h.flatMap entCells).all (·.oneCell')) = true := by
  rw [List.all_eq_true]; intro v hv
  obtain ⟨x, _, hx⟩ := List.mem_flatMap.1 hv
  simp only [entCells, List.mem_cons, List.not_mem_nil, or_false] at hx
  rcases hx with rfl | rfl | rfl | rfl <;> rfl

set_option maxHeartbeats 400000 in
theorem qPush (gq cap : Nat) (A : Option Addr) (p nd ds de : Int) (h : List Ent) (Lo : List Blk) (w0 : World) (S : List Nat) (hO : QOwn A cap h Lo) (hh : HeapOk entLt h) (hl : h.length ≤ 1000000) (hp : 0 ≤ p ∧ p ≤ 1000000000) (H0 : SH w0 S w0 (qLv gq A cap h p Lo)) :
    Calls Try.prog 101 #[.pointer (some ⟨gq, 0, none⟩), .agg #[I nd, I ds, I de]] w0 fun e w' => e = .returned (.tuple #[]) ∧ ∃ (A' : Option Addr) (cap' : Nat) (h' : List Ent) (Lo' : List Blk),
      h'.Perm (h ++ [⟨nd, ds, de, p⟩]) ∧ HeapOk entLt h' ∧ QOwn A' cap' h' Lo' ∧ SH w0 S w' (qLv gq A' cap' h' (p + 1) Lo') := by
  have H := H0
  unfold qLv qCells at H
  refine Calls.ofWP Try.func101 rfl Try.results101 Try.ntmps101 rfl ?_
  refine WP.seq ?_
  refine WP.region ?_
  refine OPS.box rfl rfl rfl rfl (cA rfl) H ?_
  clear H; intro g3 w H
  refine OPS.nil ?_
  refine WP.seq ?_
  refine WP.seq ?_
  refine WP.region ?_
  refine OPS.val rfl rfl rfl (Ev.mvP rfl) ?_
  refine OPS.val rfl rfl rfl (Ev.eqlPn Try.runUnderlying147 rfl rfl) ?_
  refine OPS.nil ?_
  refine WP.cond_f rfl ?_
  refine WP.skip ?_
  refine WP.seq ?_
  have Hf := H
  replace H := H.reidx (L' := [⟨g3, 150, [I nd, I ds, I de]⟩]) [0] (by decide) rfl
  refine WP.rheldC [7, 8, 9, 10, 11, 12, 13, 14, 15, 16, 17, 18, 19, 20, 21] (fun _ w' => ∃ (ga : Nat) (sp : List Value) (cap' : Nat), OwnS (some ⟨ga, 0, none⟩) cap' (h.length + 1) (h.flatMap entCells ++ entCells ⟨nd, ds, de, p⟩) 160 4 [⟨ga, 160, (h.flatMap entCells ++ entCells ⟨nd, ds, de, p⟩) ++ sp⟩] ∧ SH w0 S w' [⟨gq, 158, qCells (some ⟨ga, 0, none⟩) (h.length + 1) cap' p⟩, ⟨ga, 160, (h.flatMap entCells ++ entCells ⟨nd, ds, de, p⟩) ++ sp⟩]) mixed H ?_ ?_
  · clear H; intro w hbw2 H
    refine OPH.take 0 rfl rfl rfl rfl (by kernel_rfl) (by kernel_rfl) (by kernel_rfl) rfl (by exact H) (fun w H => Ev.mvP rfl) ?_
    refine OPH.take 1 rfl rfl rfl rfl (by kernel_rfl) (by kernel_rfl) (by kernel_rfl) rfl (by exact H) (fun w H => Ev.mvP rfl) ?_
    refine OPH.take 2 rfl rfl rfl rfl (by kernel_rfl) (by kernel_rfl) (by kernel_rfl) rfl (by exact H) (fun w H => (by exact Ev.nilCheckP rfl)) ?_
    refine OPH.take 3 rfl rfl rfl rfl (by kernel_rfl) (by kernel_rfl) (by kernel_rfl) rfl (by exact H) (fun w H => Ev.fieldAddr (fld_run rfl) rfl) ?_
    refine OPH.take 5 rfl rfl rfl rfl (by kernel_rfl) (by kernel_rfl) (by kernel_rfl) rfl (by exact H) (fun w H => (by exact Ev.loadO 0 H rfl (agg_run rfl) (size_run rfl) (by rfl) rfl)) ?_
    refine OPH.take 6 rfl rfl rfl rfl (by kernel_rfl) (by kernel_rfl) (by kernel_rfl) rfl (by exact H) (fun w H => Ev.mvP rfl) ?_
    refine OPH.take 7 rfl rfl rfl rfl (by kernel_rfl) (by kernel_rfl) (by kernel_rfl) rfl (by exact H) (fun w H => (by exact Ev.nilCheckP rfl)) ?_
    refine OPH.take 8 rfl rfl rfl rfl (by kernel_rfl) (by kernel_rfl) (by kernel_rfl) rfl (by exact H) (fun w H => Ev.fieldAddr (fld_run rfl) rfl) ?_
    refine OPH.all [4, 9] (by kernel_rfl) (by simp) rfl ?_
    intro i hi; simp only [List.mem_cons, List.not_mem_nil, or_false] at hi
    rcases hi with rfl | rfl
    · refine ⟨_, rfl, ?_⟩
      try replace Hf := Hf.toBelow hbw2
      refine OPS.val rfl rfl rfl (Ev.load1 (agg_run rfl) rfl (by exact Hf.ldL 1 rfl 1 rfl)) ?_
      refine OPS.nil ?_
      refine ⟨(by exact H), ?_⟩
      refine OPH.all [9] (by kernel_rfl) (by simp) rfl ?_
      intro i hi; simp only [List.mem_cons, List.not_mem_nil, or_false] at hi
      rcases hi with rfl
      · refine ⟨_, rfl, ?_⟩
        try replace Hf := Hf.toBelow hbw2
        refine OPS.val rfl rfl rfl (Ev.load1 (agg_run rfl) rfl (Hf.ldL 1 rfl 2 rfl)) ?_
        refine OPS.nil ?_
        refine ⟨(by exact H), ?_⟩
        refine OPH.take 10 rfl rfl rfl rfl (by kernel_rfl) (by kernel_rfl) (by kernel_rfl) rfl (by exact H) (fun w H => Ev.build (bld_160_0_1 rfl rfl)) ?_
        refine OPH.all [11] (by kernel_rfl) (by simp) rfl ?_
        intro i hi; simp only [List.mem_cons, List.not_mem_nil, or_false] at hi
        rcases hi with rfl
        · refine ⟨_, rfl, ?_⟩
          refine OPS.buildSlice rfl rfl rfl rfl (bsl_156_1_0 rfl) Hf ?_
          clear H Hf; intro g18 w Hf
          have H := Hf.reidx (L' := [⟨g3, 150, [I nd, I ds, I de]⟩]) [1] (by decide) rfl
          refine OPS.nil ?_
          refine ⟨(by exact H), ?_⟩
          refine OPH.all [12] (by kernel_rfl) (by simp) rfl ?_
          intro i hi; simp only [List.mem_cons, List.not_mem_nil, or_false] at hi
          rcases hi with rfl
          · refine ⟨_, rfl, ?_⟩
            refine OPS.append (m := 1) (news := entCells ⟨nd, ds, de, p⟩) (R := [⟨g18, 160, entCells ⟨nd, ds, de, p⟩⟩, ⟨g3, 150, [I nd, I ds, I de]⟩, ⟨gq, 158, qCells A h.length cap p⟩]) rfl rfl rfl rfl rfl (sl_run rfl) rfl rfl hO rfl (src_own Hf 0 rfl) rfl (by omega) (by unfold maxLen; omega) Hf (List.Perm.refl _) ?_
            clear H Hf hO; intro A' cap' Lo w hO Hf
            obtain ⟨ga, sp, rfl, rfl, _, _, hsl⟩ : ∃ g sp, A' = some ⟨g, 0, none⟩ ∧ Lo = [⟨g, 160, (h.flatMap entCells ++ entCells ⟨nd, ds, de, p⟩) ++ sp⟩] ∧ h.length + 1 ≤ cap' ∧ cap' ≤ maxLen ∧ ((h.flatMap entCells ++ entCells ⟨nd, ds, de, p⟩) ++ sp).length = cap' * 4 := by
              rcases hO.form with ⟨_, h, _⟩ | h
              · omega
              · exact h
            unfold qCells at Hf
            have H := Hf.reidx (L' := [⟨g3, 150, [I nd, I ds, I de]⟩]) [1] (by decide) rfl
            refine OPS.nil ?_
            refine ⟨(by exact H), ?_⟩
            refine OPH.take 13 rfl rfl rfl rfl (by kernel_rfl) (by kernel_rfl) (by kernel_rfl) rfl (by exact H) (fun w H => (by exact Ev.nilCheckP rfl)) ?_
            refine OPH.take 14 rfl rfl rfl rfl (by kernel_rfl) (by kernel_rfl) (by kernel_rfl) rfl (by exact H) (fun w H => Ev.fieldAddr (fld_run rfl) rfl) ?_
            refine OPH.all [15] (by kernel_rfl) (by simp) rfl ?_
            intro i hi; simp only [List.mem_cons, List.not_mem_nil, or_false] at hi
            rcases hi with rfl
            · refine ⟨_, rfl, ?_⟩
              refine OPS.store 2 _ rfl rfl rfl (size_run rfl) rfl (cS rfl) rfl rfl Hf rfl (by simp) ?_
              clear H Hf; intro w Hf
              have H := Hf.reidx (L' := [⟨g3, 150, [I nd, I ds, I de]⟩]) [1] (by decide) rfl
              replace Hf := Hf.reidx (L' := [⟨gq, 158, qCells (some ⟨ga, 0, none⟩) (h.length + 1) cap' p⟩, ⟨ga, 160, (h.flatMap entCells ++ entCells ⟨nd, ds, de, p⟩) ++ sp⟩]) [2, 3] (by decide) rfl
              refine OPS.nil ?_
              refine ⟨(by exact H), ?_⟩
              refine OPH.done (by kernel_rfl) ?_
              exact ⟨(by repeat (first | exact Agree.refl _ _ | exact Agree.mix _ _ _ | refine Agree.upd rfl ?_ | refine Agree.mix2 rfl ?_)), ga, sp, cap', hO, Hf⟩
    · refine ⟨_, rfl, ?_⟩
      try replace Hf := Hf.toBelow hbw2
      refine OPS.val rfl rfl rfl (Ev.load1 (agg_run rfl) rfl (Hf.ldL 1 rfl 2 rfl)) ?_
      refine OPS.nil ?_
      refine ⟨(by exact H), ?_⟩
      refine OPH.take 10 rfl rfl rfl rfl (by kernel_rfl) (by kernel_rfl) (by kernel_rfl) rfl (by exact H) (fun w H => Ev.build (bld_160_0_1 rfl rfl)) ?_
      refine OPH.all [4, 11] (by kernel_rfl) (by simp) rfl ?_
      intro i hi; simp only [List.mem_cons, List.not_mem_nil, or_false] at hi
      rcases hi with rfl | rfl
      · refine ⟨_, rfl, ?_⟩
        try replace Hf := Hf.toBelow hbw2
        refine OPS.val rfl rfl rfl (Ev.load1 (agg_run rfl) rfl (by exact Hf.ldL 1 rfl 1 rfl)) ?_
        refine OPS.nil ?_
        refine ⟨(by exact H), ?_⟩
        refine OPH.all [11] (by kernel_rfl) (by simp) rfl ?_
        intro i hi; simp only [List.mem_cons, List.not_mem_nil, or_false] at hi
        rcases hi with rfl
        · refine ⟨_, rfl, ?_⟩
          refine OPS.buildSlice rfl rfl rfl rfl (bsl_156_1_0 rfl) Hf ?_
          clear H Hf; intro g18 w Hf
          have H := Hf.reidx (L' := [⟨g3, 150, [I nd, I ds, I de]⟩]) [1] (by decide) rfl
          refine OPS.nil ?_
          refine ⟨(by exact H), ?_⟩
          refine OPH.all [12] (by kernel_rfl) (by simp) rfl ?_
          intro i hi; simp only [List.mem_cons, List.not_mem_nil, or_false] at hi
          rcases hi with rfl
          · refine ⟨_, rfl, ?_⟩
            refine OPS.append (m := 1) (news := entCells ⟨nd, ds, de, p⟩) (R := [⟨g18, 160, entCells ⟨nd, ds, de, p⟩⟩, ⟨g3, 150, [I nd, I ds, I de]⟩, ⟨gq, 158, qCells A h.length cap p⟩]) rfl rfl rfl rfl rfl (sl_run rfl) rfl rfl hO rfl (src_own Hf 0 rfl) rfl (by omega) (by unfold maxLen; omega) Hf (List.Perm.refl _) ?_
            clear H Hf hO; intro A' cap' Lo w hO Hf
            obtain ⟨ga, sp, rfl, rfl, _, _, hsl⟩ : ∃ g sp, A' = some ⟨g, 0, none⟩ ∧ Lo = [⟨g, 160, (h.flatMap entCells ++ entCells ⟨nd, ds, de, p⟩) ++ sp⟩] ∧ h.length + 1 ≤ cap' ∧ cap' ≤ maxLen ∧ ((h.flatMap entCells ++ entCells ⟨nd, ds, de, p⟩) ++ sp).length = cap' * 4 := by
              rcases hO.form with ⟨_, h, _⟩ | h
              · omega
              · exact h
            unfold qCells at Hf
            have H := Hf.reidx (L' := [⟨g3, 150, [I nd, I ds, I de]⟩]) [1] (by decide) rfl
            refine OPS.nil ?_
            refine ⟨(by exact H), ?_⟩
            refine OPH.take 13 rfl rfl rfl rfl (by kernel_rfl) (by kernel_rfl) (by kernel_rfl) rfl (by exact H) (fun w H => (by exact Ev.nilCheckP rfl)) ?_
            refine OPH.take 14 rfl rfl rfl rfl (by kernel_rfl) (by kernel_rfl) (by kernel_rfl) rfl (by exact H) (fun w H => Ev.fieldAddr (fld_run rfl) rfl) ?_
            refine OPH.all [15] (by kernel_rfl) (by simp) rfl ?_
            intro i hi; simp only [List.mem_cons, List.not_mem_nil, or_false] at hi
            rcases hi with rfl
            · refine ⟨_, rfl, ?_⟩
              refine OPS.store 2 _ rfl rfl rfl (size_run rfl) rfl (cS rfl) rfl rfl Hf rfl (by simp) ?_
              clear H Hf; intro w Hf
              have H := Hf.reidx (L' := [⟨g3, 150, [I nd, I ds, I de]⟩]) [1] (by decide) rfl
              replace Hf := Hf.reidx (L' := [⟨gq, 158, qCells (some ⟨ga, 0, none⟩) (h.length + 1) cap' p⟩, ⟨ga, 160, (h.flatMap entCells ++ entCells ⟨nd, ds, de, p⟩) ++ sp⟩]) [2, 3] (by decide) rfl
              refine OPS.nil ?_
              refine ⟨(by exact H), ?_⟩
              refine OPH.done (by kernel_rfl) ?_
              exact ⟨(by repeat (first | exact Agree.refl _ _ | exact Agree.mix _ _ _ | refine Agree.upd rfl ?_ | refine Agree.mix2 rfl ?_)), ga, sp, cap', hO, Hf⟩
      · refine ⟨_, rfl, ?_⟩
        refine OPS.buildSlice rfl rfl rfl rfl (bsl_156_1_0 rfl) Hf ?_
        clear H Hf; intro g18 w Hf
        have H := Hf.reidx (L' := [⟨g3, 150, [I nd, I ds, I de]⟩]) [1] (by decide) rfl
        refine OPS.nil ?_
        refine ⟨(by exact H), ?_⟩
        refine OPH.all [4] (by kernel_rfl) (by simp) rfl ?_
        intro i hi; simp only [List.mem_cons, List.not_mem_nil, or_false] at hi
        rcases hi with rfl
        · refine ⟨_, rfl, ?_⟩
          try replace Hf := Hf.toBelow hbw2
          refine OPS.val rfl rfl rfl (Ev.load1 (agg_run rfl) rfl (by exact Hf.ldL 2 rfl 1 rfl)) ?_
          refine OPS.nil ?_
          refine ⟨(by exact H), ?_⟩
          refine OPH.all [12] (by kernel_rfl) (by simp) rfl ?_
          intro i hi; simp only [List.mem_cons, List.not_mem_nil, or_false] at hi
          rcases hi with rfl
          · refine ⟨_, rfl, ?_⟩
            refine OPS.append (m := 1) (news := entCells ⟨nd, ds, de, p⟩) (R := [⟨g18, 160, entCells ⟨nd, ds, de, p⟩⟩, ⟨g3, 150, [I nd, I ds, I de]⟩, ⟨gq, 158, qCells A h.length cap p⟩]) rfl rfl rfl rfl rfl (sl_run rfl) rfl rfl hO rfl (src_own Hf 0 rfl) rfl (by omega) (by unfold maxLen; omega) Hf (List.Perm.refl _) ?_
            clear H Hf hO; intro A' cap' Lo w hO Hf
            obtain ⟨ga, sp, rfl, rfl, _, _, hsl⟩ : ∃ g sp, A' = some ⟨g, 0, none⟩ ∧ Lo = [⟨g, 160, (h.flatMap entCells ++ entCells ⟨nd, ds, de, p⟩) ++ sp⟩] ∧ h.length + 1 ≤ cap' ∧ cap' ≤ maxLen ∧ ((h.flatMap entCells ++ entCells ⟨nd, ds, de, p⟩) ++ sp).length = cap' * 4 := by
              rcases hO.form with ⟨_, h, _⟩ | h
              · omega
              · exact h
            unfold qCells at Hf
            have H := Hf.reidx (L' := [⟨g3, 150, [I nd, I ds, I de]⟩]) [1] (by decide) rfl
            refine OPS.nil ?_
            refine ⟨(by exact H), ?_⟩
            refine OPH.take 13 rfl rfl rfl rfl (by kernel_rfl) (by kernel_rfl) (by kernel_rfl) rfl (by exact H) (fun w H => (by exact Ev.nilCheckP rfl)) ?_
            refine OPH.take 14 rfl rfl rfl rfl (by kernel_rfl) (by kernel_rfl) (by kernel_rfl) rfl (by exact H) (fun w H => Ev.fieldAddr (fld_run rfl) rfl) ?_
            refine OPH.all [15] (by kernel_rfl) (by simp) rfl ?_
            intro i hi; simp only [List.mem_cons, List.not_mem_nil, or_false] at hi
            rcases hi with rfl
            · refine ⟨_, rfl, ?_⟩
              refine OPS.store 2 _ rfl rfl rfl (size_run rfl) rfl (cS rfl) rfl rfl Hf rfl (by simp) ?_
              clear H Hf; intro w Hf
              have H := Hf.reidx (L' := [⟨g3, 150, [I nd, I ds, I de]⟩]) [1] (by decide) rfl
              replace Hf := Hf.reidx (L' := [⟨gq, 158, qCells (some ⟨ga, 0, none⟩) (h.length + 1) cap' p⟩, ⟨ga, 160, (h.flatMap entCells ++ entCells ⟨nd, ds, de, p⟩) ++ sp⟩]) [2, 3] (by decide) rfl
              refine OPS.nil ?_
              refine ⟨(by exact H), ?_⟩
              refine OPH.done (by kernel_rfl) ?_
              exact ⟨(by repeat (first | exact Agree.refl _ _ | exact Agree.mix _ _ _ | refine Agree.upd rfl ?_ | refine Agree.mix2 rfl ?_)), ga, sp, cap', hO, Hf⟩
  clear H
  rintro u w ⟨ga, sp, cap', hO, H⟩
  have e1 : (h ++ [(⟨nd, ds, de, p⟩ : Ent)]).flatMap entCells = h.flatMap entCells ++ entCells ⟨nd, ds, de, p⟩ := by simp
  have e2 : (h ++ [(⟨nd, ds, de, p⟩ : Ent)]).length = h.length + 1 := by simp
  rw [← e1, ← e2] at H hO
  have hup := UpOk.start hh (⟨nd, ds, de, p⟩ : Ent)
  unfold qCells at H
  refine WP.seq ?_
  refine WP.region ?_
  refine OPS.val rfl rfl rfl (Ev.mvP rfl) ?_
  refine OPS.val rfl rfl rfl ((by exact Ev.nilCheckP rfl)) ?_
  refine OPS.val rfl rfl rfl (Ev.fieldAddr (fld_run rfl) rfl) ?_
  refine OPS.val rfl rfl rfl (Ev.load1 (agg_run rfl) rfl (by exact H.ldL 0 rfl _ rfl)) ?_
  refine OPS.val rfl rfl rfl (Ev.add rfl rfl (by unfold fits; omega)) ?_
  refine OPS.val rfl rfl rfl ((by exact Ev.nilCheckP rfl)) ?_
  refine OPS.val rfl rfl rfl (Ev.fieldAddr (fld_run rfl) rfl) ?_
  refine OPS.store 0 _ rfl rfl rfl (size_run rfl) rfl (cI rfl) rfl rfl H rfl (by simp) ?_
  clear H; intro w H; try simp only [List.set_cons_zero, List.set_cons_succ, putL, Nat.zero_add] at H
  refine OPS.nil ?_
  refine WP.seq ?_
  refine WP.region ?_
  refine OPS.val rfl rfl rfl (Ev.mvP rfl) ?_
  refine OPS.val rfl rfl rfl ((by exact Ev.nilCheckP rfl)) ?_
  refine OPS.val rfl rfl rfl (Ev.fieldAddr (fld_run rfl) rfl) ?_
  refine OPS.val rfl rfl rfl (Ev.load1 (agg_run rfl) rfl (by exact H.ldL 0 rfl _ rfl)) ?_
  refine OPS.val rfl rfl rfl (Ev.len (el_run rfl) rfl) ?_
  refine OPS.val rfl rfl rfl (Ev.sub rfl rfl (by unfold fits; omega)) ?_
  refine OPS.val rfl rfl rfl (Ev.asI rfl) ?_
  refine OPS.nil ?_
  refine WP.block ?_
  refine WP.loop [4, 35, 36, 37, 38, 39, 40, 41, 42, 43, 44, 45, 46, 47, 48, 49, 50, 51, 52, 53] (fun g e w' => ∃ (i : Nat) (h1 : List Ent), i = g ∧ e 4 = I i ∧ SH w0 S w' (qBlks gq ga h1 cap' (p + 1) sp) ∧ h1.Perm (h ++ [⟨nd, ds, de, p⟩]) ∧ UpOk entLt h1 i) (h.length) (⟨h.length, h ++ [(⟨nd, ds, de, p⟩ : Ent)], rfl, by rw [show (((h ++ [(⟨nd, ds, de, p⟩ : Ent)]).length : Nat) : Int) - 1 = (h.length : Nat) from by rw [e2]; omega]; rfl, H, List.Perm.refl _, hup⟩) ?_
  clear H
  rintro g u w ⟨i, h1, rfl, h4, H, hpm, hu⟩
  refine WP.know (t := 4) h4 ?_
  have hlen := hpm.length_eq
  have hil := hu.lt'
  unfold qBlks qCells at H
  refine WP.seq ?_
  refine WP.seq ?_
  skip
  refine WP.region ?_
  refine OPS.val rfl rfl rfl (Ev.mvI rfl) ?_
  refine OPS.val rfl rfl rfl (Ev.gtr rfl rfl) ?_
  refine OPS.val rfl rfl rfl (Ev.mvB rfl) ?_
  refine OPS.gval rfl rfl rfl rfl rfl (fun hg => Ev.mvP (by rfl)) ?_
  refine OPS.gval rfl rfl rfl rfl rfl (fun hg => Ev.mvI (by rfl)) ?_
  refine OPS.gval rfl rfl rfl rfl rfl (fun hg => Ev.mvI (by rfl)) ?_
  refine OPS.gval rfl rfl rfl rfl rfl (fun hg => Ev.sub (by exact gvE hg rfl) (by rfl) (by unfold fits; omega)) ?_
  refine OPS.gval rfl rfl rfl rfl rfl (fun hg => Ev.quo (gvE hg rfl) rfl (by simp at hg; omega) (by omega) (by omega)) ?_
  refine OPS.gcall (f := 103) (args := [.pointer (some ⟨gq, 0, none⟩), I i, I (((i : Int) - 1) / 2)]) (v := .bool (entLt (h1.getD i default) (h1.getD ((i - 1) / 2) default))) rfl rfl rfl rfl rfl (fun hg => EvC.conv (EvC.func (fun_run rfl)) (l3 (gvE hg rfl) (gvE hg rfl) (gvE hg rfl))) (fun hg => qBeforeI gq ga cap' i ((i - 1) / 2) _ _ (p + 1) h1 sp w0 w S _ rfl (by simp at hg; omega) H rfl rfl hil (by omega)) ?_
  intro w hbc; replace H := H.toBelow hbc; clear hbc
  refine OPS.val rfl rfl rfl ((by exact Ev.pickAnd rfl rfl rfl)) ?_
  refine OPS.nil ?_
  refine WP.cond rfl (fun hc5 => ?_) (fun hc5 => ?_)
  · rw [Bool.and_eq_true, decide_eq_true_eq] at hc5
    have hi0 : 0 < i := by omega
    refine WP.skip ?_
    refine WP.seq ?_
    refine WP.block ?_
    refine WP.region ?_
    refine OPS.val rfl rfl rfl (Ev.mvP rfl) ?_
    refine OPS.val rfl rfl rfl (Ev.mvI rfl) ?_
    refine OPS.val rfl rfl rfl (Ev.mvI rfl) ?_
    refine OPS.val rfl rfl rfl (Ev.sub rfl rfl (by unfold fits; omega)) ?_
    refine OPS.val rfl rfl rfl (Ev.quo rfl rfl (by omega) (by omega) (by omega)) ?_
    refine OPS.call (d := some 53) rfl rfl rfl (EvC.func (fun_run rfl)) (qSwapI gq ga cap' i ((i - 1) / 2) _ _ (p + 1) h1 sp w0 w S rfl (by omega) H hil (by omega)) ?_
    rintro _ w ⟨rfl, H2⟩
    refine ⟨_, rfl, ?_⟩
    replace H := H2; clear H2
    refine OPS.nil ?_
    refine WP.region ?_
    refine OPS.val rfl rfl rfl (Ev.mvI rfl) ?_
    refine OPS.val rfl rfl rfl (Ev.sub rfl rfl (by unfold fits; omega)) ?_
    refine OPS.val rfl rfl rfl (Ev.quo rfl rfl (by omega) (by omega) (by omega)) ?_
    refine OPS.val rfl rfl rfl (Ev.asI rfl) ?_
    refine OPS.nil ?_
    exact ⟨(by repeat (first | exact Agree.refl _ _ | exact Agree.mix _ _ _ | refine Agree.upd rfl ?_ | refine Agree.mix2 rfl ?_)), (i - 1) / 2, by omega, (i - 1) / 2, swapL h1 i ((i - 1) / 2), rfl, by rw [show (((i - 1) / 2 : Nat) : Int) = ((i : Int) - 1) / 2 from by omega]; rfl, H, (swapL_perm hil (by omega)).trans hpm, hu.step entLtOk hi0 hc5.2⟩
  refine WP.exit ?_
  refine XB.hit ?_
  refine ⟨_, rfl, ?_⟩
  have hfin : HeapOk entLt h1 := hu.done (by
    rcases Nat.eq_zero_or_pos i with h0 | h0
    · exact .inl h0
    · refine .inr ?_
      have q : decide ((0 : Int) < i) = true := by simp; omega
      rw [q, Bool.true_and] at hc5
      exact hc5)
  have e3 : (h1.flatMap entCells).length = ((h ++ [(⟨nd, ds, de, p⟩ : Ent)]).flatMap entCells).length := by rw [rows_length entCells_len, rows_length entCells_len, hlen]
  have hO2 : QOwn (some ⟨ga, 0, none⟩) cap' h1 [⟨ga, 160, h1.flatMap entCells ++ sp⟩] := by
    refine ⟨rows_length entCells_len h1, .inr ⟨ga, sp, rfl, rfl, ?_⟩⟩
    rcases hO.form with ⟨_, q, _⟩ | ⟨g', sp', q1, q2, q3, q4, q5⟩
    · rw [e2] at q; omega
    · have q6 : sp' = sp := by
        simp only [List.cons.injEq, Blk.mk.injEq, and_true, true_and] at q2
        exact (List.append_cancel_left q2.2).symm
      subst q6
      refine ⟨by rw [hlen]; exact q3, q4, ?_⟩
      rw [List.length_append] at q5 ⊢
      rw [e3]; exact q5
  exact ⟨rfl, _, cap', h1, _, hpm, hfin, hO2, H⟩
end Go.Proofs.Ytfddebpeiilohaa

/-
  Walk: the priority queue of stops: Pop.
-/
set_option linter.all false
namespace Go.Proofs.Ytfddebpeiilohaa
open Go Go.W Go.RowKit

theorem qRows {A : Option Addr} {cap gq : Nat} {p : Int} {h : List Ent} {Lo : List Blk} {w0 w : World} {S : List Nat} (hO : QOwn A cap h Lo) (H : SH w0 S w (qLv gq A cap h p Lo)) : RowsAt 4 entCells w A h := by
  rcases hO.form with ⟨_, q, _, _⟩ | ⟨g, sp, rfl, rfl, _⟩
  · rw [List.length_eq_zero_iff.1 q]; exact RowsAt.nil
  · exact rowsOwn entCells_len H 1 rfl
theorem popL_set (h : List Ent) (z : Ent) (hl : 0 < h.length) : (swapL h 0 (h.length - 1)).set (h.length - 1) z = popL h ++ [z] := by
  have e : (swapL h 0 (h.length - 1)).length = h.length := swapL_length ..
  rw [List.set_eq_take_append_cons_drop, if_pos (by omega), List.drop_eq_nil_of_le (by omega)]; rfl
/-- what Pop returns -/
def popV (x : Ent) (b : Bool) : Value := .tuple #[labV x, .bool b]

set_option maxHeartbeats 400000 in
theorem qPop (gq cap : Nat) (A : Option Addr) (p : Int) (h : List Ent) (Lo : List Blk) (w0 : World) (S : List Nat) (hO : QOwn A cap h Lo) (hh : HeapOk entLt h) (hl : h.length ≤ 1000000) (H0 : SH w0 S w0 (qLv gq A cap h p Lo)) :
    Calls Try.prog 102 #[.pointer (some ⟨gq, 0, none⟩)] w0 fun e w' =>
      (h = [] ∧ e = .returned (popV ⟨0, 0, 0, 0⟩ false) ∧ SH w0 S w' (qLv gq A cap h p Lo)) ∨
      ∃ (x : Ent) (t h' : List Ent) (Lo' : List Blk), h = x :: t ∧ e = .returned (popV x true) ∧ (x :: h').Perm h ∧ HeapOk entLt h' ∧ QOwn A cap h' Lo' ∧ SH w0 S w' (qLv gq A cap h' p Lo') := by
  have H := H0
  have hrow : ∀ w, SH w0 S w (qLv gq A cap h p Lo) → RowsAt 4 entCells w A h := fun w H => qRows hO H
  refine Calls.ofWPc Try.func102 rfl Try.results102 Try.ntmps102 rfl ?_
  refine WP.seq ?_
  refine WP.region ?_
  refine OPS.alloc rfl rfl rfl rfl (zero_run rfl) rfl H ?_
  clear H; intro g2 w H
  refine OPS.val rfl rfl rfl (Ev.asB rfl) ?_
  refine OPS.nil ?_
  refine WP.seq ?_
  have Hq := H.reidx (L' := [⟨gq, 158, qCells A h.length cap p⟩]) [1] (by decide) rfl
  have hr1 := hrow w (H.drop (List.sublist_cons_self _ _))
  have hq1 : cellsAt w gq 0 (qCells A h.length cap p) := cellsAt_own H 1 rfl _ 0 fun j hj => by rw [Nat.zero_add]; exact List.getElem?_eq_getElem hj
  clear Hq
  refine WP.region ?_
  refine OPS.val rfl rfl rfl (Ev.mvP rfl) ?_
  refine OPS.call (d := some 9) rfl rfl rfl (EvC.func (fun_run rfl)) (qPeek gq cap A p h _ hq1 hr1) ?_
  rintro _ w ⟨rfl, hb⟩
  refine ⟨_, rfl, ?_⟩
  replace H := H.toBelow hb; clear hb
  refine OPS.val rfl rfl rfl (Ev.mvT rfl) ?_
  refine OPS.val rfl rfl rfl (Ev.extract rfl rfl) ?_
  refine OPS.val rfl rfl rfl (Ev.extract rfl rfl) ?_
  refine OPS.alloc rfl rfl rfl rfl (zero_run rfl) rfl H ?_
  clear H; intro g4 w H
  refine OPS.store 0 _ rfl rfl rfl (size_run rfl) rfl (cA rfl) rfl rfl H rfl (by simp) ?_
  clear H; intro w H; try simp only [List.set_cons_zero, List.set_cons_succ, putL, Nat.zero_add] at H
  refine OPS.val rfl rfl rfl (Ev.asB rfl) ?_
  refine OPS.nil ?_
  refine WP.seq ?_
  refine WP.seq ?_
  refine WP.region ?_
  refine OPS.val rfl rfl rfl (Ev.mvB rfl) ?_
  refine OPS.val rfl rfl rfl (Ev.not rfl) ?_
  refine OPS.nil ?_
  refine WP.cond rfl (fun hc2 => ?_) (fun hc2 => ?_)
  · have h0 : h = [] := by cases h with | nil => rfl | cons x t => simp at hc2
    subst h0
    refine WP.seq ?_
    refine WP.region ?_
    refine OPS.val rfl rfl rfl ((by exact Ev.loadO 0 H rfl (agg_run rfl) (size_run rfl) (by rfl) rfl)) ?_
    refine OPS.store 1 _ rfl rfl rfl (size_run rfl) rfl (cA rfl) rfl rfl H rfl (by simp) ?_
    clear H; intro w H; try simp only [List.set_cons_zero, List.set_cons_succ, putL, Nat.zero_add] at H
    refine OPS.val rfl rfl rfl (Ev.asB rfl) ?_
    refine OPS.nil ?_
    refine WP.ret ⟨[_, _], ⟨(by exact resCellA 1 H rfl (agg_run rfl) (size_run rfl) (by rfl) rfl), rfl, trivial⟩, ?_⟩
    exact .inl ⟨rfl, rfl, H.drop ((List.sublist_cons_self _ _).trans (List.sublist_cons_self _ _))⟩
  obtain ⟨x, t, rfl⟩ : ∃ x t, h = x :: t := by cases h with | nil => simp at hc2 | cons x t => exact ⟨x, t, rfl⟩
  obtain ⟨ga, sp, rfl, rfl, hcap, hmx, hsl⟩ : ∃ g sp, A = some ⟨g, 0, none⟩ ∧ Lo = [⟨g, 160, (x :: t).flatMap entCells ++ sp⟩] ∧ (x :: t).length ≤ cap ∧ cap ≤ maxLen ∧ ((x :: t).flatMap entCells ++ sp).length = cap * 4 := by
    rcases hO.form with ⟨_, h, _⟩ | h
    · simp at h
    · exact h
  simp only [List.length_cons] at hcap hl
  have hlc : (x :: t).length = t.length + 1 := rfl
  unfold qLv qCells at H
  refine WP.skip ?_
  refine WP.seq ?_
  refine WP.region ?_
  refine OPS.val rfl rfl rfl (Ev.mvP rfl) ?_
  refine OPS.val rfl rfl rfl ((by exact Ev.nilCheckP rfl)) ?_
  refine OPS.val rfl rfl rfl (Ev.fieldAddr (fld_run rfl) rfl) ?_
  refine OPS.val rfl rfl rfl (Ev.load1 (agg_run rfl) rfl (by exact H.ldL 2 rfl _ rfl)) ?_
  refine OPS.val rfl rfl rfl (Ev.len (el_run rfl) rfl) ?_
  refine OPS.val rfl rfl rfl (Ev.sub rfl rfl (by unfold fits; omega)) ?_
  refine OPS.val rfl rfl rfl (Ev.asI rfl) ?_
  refine OPS.nil ?_
  refine WP.seq ?_
  refine WP.region ?_
  refine OPS.val rfl rfl rfl (Ev.mvP rfl) ?_
  refine OPS.val rfl rfl rfl (Ev.mvI rfl) ?_
  refine OPS.call (d := some 23) rfl rfl rfl (EvC.func (fun_run rfl)) (qSwapI gq ga cap 0 t.length _ _ p (x :: t) sp w w (qBlks gq ga (x :: t) cap p sp |>.map (·.g)) rfl (by simp only [List.length_cons]; omega) (SH.restart H (Lv := qBlks gq ga (x :: t) cap p sp) ((List.sublist_cons_self _ _).trans (List.sublist_cons_self _ _))) (by simp) (by simp)) ?_
  rintro _ w ⟨rfl, H2⟩
  refine ⟨_, rfl, ?_⟩
  replace H := SH.call (Lv := qBlks gq ga (x :: t) cap p sp) (L1 := [_, _]) H H2
  clear H2
  unfold qBlks qCells at H
  rw [swapL_length] at H
  refine OPS.nil ?_
  refine WP.seq ?_
  refine WP.region ?_
  refine OPS.val rfl rfl rfl (Ev.mvP rfl) ?_
  refine OPS.val rfl rfl rfl ((by exact Ev.nilCheckP rfl)) ?_
  refine OPS.val rfl rfl rfl (Ev.fieldAddr (fld_run rfl) rfl) ?_
  refine OPS.val rfl rfl rfl (Ev.load1 (agg_run rfl) rfl (by exact H.ldL 2 rfl _ rfl)) ?_
  refine OPS.val rfl rfl rfl (Ev.mvI rfl) ?_
  refine OPS.val rfl rfl rfl (Ev.sliceFrom2 (j := t.length) (el_run rfl) (size_run rfl) rfl rfl (by simp only [List.length_cons]; omega) (by simp) (by omega)) ?_
  refine OPS.clear 3 _ rfl rfl rfl (zs := entCells ⟨0, 0, 0, 0⟩) (el_run rfl) (zero_run rfl) rfl (by decide) rfl rfl (by simp) H rfl (by simp only [List.length_append, rows_length entCells_len, swapL_length, hlc, entCells_len]; omega) ?_
  clear H; intro w H
  simp only [List.set_cons_zero, List.set_cons_succ] at H
  rw [show (x :: t).length - t.length = 1 from by rw [hlc]; omega, show mkL 1 (entCells ⟨0, 0, 0, 0⟩) = entCells ⟨0, 0, 0, 0⟩ from rfl, putL_ents _ _ _ _ (by rw [swapL_length, hlc]; omega),
    show (swapL (x :: t) 0 t.length).set t.length ⟨0, 0, 0, 0⟩ = popL (x :: t) ++ [⟨0, 0, 0, 0⟩] from popL_set (x :: t) _ (by simp), List.flatMap_append, List.append_assoc] at H
  refine OPS.nil ?_
  refine WP.seq ?_
  refine WP.region ?_
  refine OPS.val rfl rfl rfl (Ev.mvP rfl) ?_
  refine OPS.val rfl rfl rfl (Ev.mvP rfl) ?_
  refine OPS.val rfl rfl rfl ((by exact Ev.nilCheckP rfl)) ?_
  refine OPS.val rfl rfl rfl (Ev.fieldAddr (fld_run rfl) rfl) ?_
  refine OPS.val rfl rfl rfl (Ev.load1 (agg_run rfl) rfl (by exact H.ldL 2 rfl _ rfl)) ?_
  refine OPS.val rfl rfl rfl (Ev.mvI rfl) ?_
  refine OPS.val rfl rfl rfl (Ev.sliceTo (j := t.length) (el_run rfl) ⟨4, size_run rfl⟩ rfl rfl (by simp only [List.length_cons]; omega) (by omega)) ?_
  refine OPS.val rfl rfl rfl ((by exact Ev.nilCheckP rfl)) ?_
  refine OPS.val rfl rfl rfl (Ev.fieldAddr (fld_run rfl) rfl) ?_
  refine OPS.store 2 _ rfl rfl rfl (size_run rfl) rfl (cS rfl) rfl rfl H rfl (by simp) ?_
  clear H; intro w H; try simp only [List.set_cons_zero, List.set_cons_succ, putL, Nat.zero_add] at H
  refine OPS.nil ?_
  refine WP.seq ?_
  refine WP.region ?_
  refine OPS.val rfl rfl rfl (Ev.mvP rfl) ?_
  refine OPS.call (d := some 40) rfl rfl rfl (EvC.func (fun_run rfl)) (qSink gq ga cap p (popL (x :: t)) ([⟨0, 0, 0, 0⟩].flatMap entCells ++ sp) w (qBlks gq ga (popL (x :: t)) cap p ([⟨0, 0, 0, 0⟩].flatMap entCells ++ sp) |>.map (·.g)) (DownOk.start hh) (by rw [popL_length, hlc]; omega) (SH.restart H (Lv := qBlks gq ga (popL (x :: t)) cap p ([⟨0, 0, 0, 0⟩].flatMap entCells ++ sp)) (by unfold qBlks qCells; rw [popL_length]; exact ((List.sublist_cons_self _ _).trans (List.sublist_cons_self _ _))))) ?_
  rintro _ w ⟨rfl, h', hp', hh', H2⟩
  refine ⟨_, rfl, ?_⟩
  replace H := SH.call (Lv := qBlks gq ga (popL (x :: t)) cap p ([⟨0, 0, 0, 0⟩].flatMap entCells ++ sp)) (L1 := [⟨g4, 150, labCells x⟩, ⟨g2, 150, [I 0, I 0, I 0]⟩]) (by unfold qBlks qCells; rw [popL_length]; exact H) H2
  clear H2
  have hlen' : h'.length = t.length := by rw [hp'.length_eq, popL_length]; rfl
  unfold qBlks labCells at H
  refine OPS.nil ?_
  refine WP.seq ?_
  refine WP.region ?_
  refine OPS.val rfl rfl rfl ((by exact Ev.loadO 0 H rfl (agg_run rfl) (size_run rfl) (by rfl) rfl)) ?_
  refine OPS.store 1 _ rfl rfl rfl (size_run rfl) rfl (cA rfl) rfl rfl H rfl (by simp) ?_
  clear H; intro w H; try simp only [List.set_cons_zero, List.set_cons_succ, putL, Nat.zero_add] at H
  refine OPS.val rfl rfl rfl (Ev.asB rfl) ?_
  refine OPS.nil ?_
  refine WP.ret ⟨[_, _], ⟨(by exact resCellA 1 H rfl (agg_run rfl) (size_run rfl) (by rfl) rfl), rfl, trivial⟩, ?_⟩
  refine .inr ⟨x, t, h', [⟨ga, 160, h'.flatMap entCells ++ ([⟨0, 0, 0, 0⟩].flatMap entCells ++ sp)⟩], rfl, rfl, (List.Perm.cons x hp').trans popL_perm, hh', ⟨rows_length entCells_len h', .inr ⟨ga, _, rfl, rfl, by omega, hmx, ?_⟩⟩, H.drop ((List.sublist_cons_self _ _).trans (List.sublist_cons_self _ _))⟩
  rw [← hsl]
  simp only [List.length_append, rows_length entCells_len, hlen', hlc, List.length_cons, List.length_nil]
  omega
/-- Pop, in one form -/
theorem qPop2 (gq cap : Nat) (A : Option Addr) (p : Int) (h : List Ent) (Lo : List Blk) (w0 : World) (S : List Nat) (hO : QOwn A cap h Lo) (hh : HeapOk entLt h) (hl : h.length ≤ 1000000) (H0 : SH w0 S w0 (qLv gq A cap h p Lo)) :
    Calls Try.prog 102 #[.pointer (some ⟨gq, 0, none⟩)] w0 fun e w' =>
      ∃ (x : Ent) (b : Bool) (h' : List Ent) (Lo' : List Blk), e = .returned (popV x b) ∧ (b = false → h = [] ∧ h' = []) ∧ (b = true → (x :: h').Perm h ∧ ∀ z ∈ h, legLt z.secs z.edges x.secs x.edges = false) ∧ HeapOk entLt h' ∧ QOwn A cap h' Lo' ∧ SH w0 S w' (qLv gq A cap h' p Lo') := by
  refine (qPop gq cap A p h Lo w0 S hO hh hl H0).mono fun e w' hr => ?_
  rcases hr with ⟨rfl, he, H⟩ | ⟨x, t, h', Lo', rfl, he, hp, hh', hO', H⟩
  · exact ⟨⟨0, 0, 0, 0⟩, false, [], Lo, he, fun _ => ⟨rfl, rfl⟩, (fun h => by cases h), hh, hO, H⟩
  · refine ⟨x, true, h', Lo', he, (fun h => by cases h), fun _ => ⟨hp, fun z hz => ?_⟩, hh', hO', H⟩
    have := hh.root_le entLtOk z hz
    unfold entLt at this
    simp only [Bool.or_eq_false_iff] at this
    exact this.1
end Go.Proofs.Ytfddebpeiilohaa

/-
  Plain: the search of spread.
-/
set_option linter.all false
namespace Go.Proofs.Ytfddebpeiilohaa
open Go Go.W

structure Leg where
  secs : Int
  edges : Int
instance : Inhabited Leg := ⟨⟨0, 0⟩⟩
def legCells (x : Leg) : List Value := [I x.secs, I x.edges]
theorem legCells_len (x : Leg) : (legCells x).length = 2 := rfl
def fnd (found : List Bool) (v : Nat) : Bool := found.getD v false
def bst (best : List Leg) (v : Nat) : Int := (best.getD v default).secs
structure SpI (l : List Edg) (n s : Nat) (K : Nat → Bool) (D : Nat → Int) (x : Nat) (Pr : Nat → Prop) (found : List Bool) (best : List Leg) (h : List Ent) : Prop where
  flen : found.length = n
  blen : best.length = n
  ent : ∀ y ∈ h, (∃ v : Nat, v < n ∧ y.node = v ∧ K v = true ∧ D v ≤ y.secs) ∧ (0 ≤ y.edges ∧ y.edges ≤ (n : Int) - openN found) ∧ y.secs ≤ 1000 * y.edges
  fin : ∀ v, v < n → fnd found v = true → K v = true ∧ bst best v = D v
  pend : ∀ i u v w, EdgeAt l i u v w → u < n → v < n → fnd found u = true → (u ≠ x ∨ Pr i) → fnd found v = true ∨ ∃ y ∈ h, y.node = v ∧ y.secs ≤ D u + w
  src : fnd found s = true ∨ ∃ y ∈ h, y.node = s ∧ y.secs ≤ 0
section
variable {l : List Edg} {n s x : Nat} {K : Nat → Bool} {D : Nat → Int} {Pr : Nat → Prop} {found : List Bool} {best : List Leg} {h : List Ent}
theorem openN_len : ∀ l : List Bool, openN l ≤ l.length := fun l => by unfold openN; exact List.length_filter_le _ _
theorem fnd_set {b v : Nat} {y : Bool} (hb : b < found.length) : fnd (found.set b y) v = if b = v then y else fnd found v := by
  unfold fnd
  by_cases h : b = v
  · subst h; simp [hb]
  · simp [h, List.getElem?_set]
theorem bst_set {b v : Nat} {y : Leg} (hb : b < best.length) : bst (best.set b y) v = if b = v then y.secs else bst best v := by
  unfold bst
  by_cases h : b = v
  · subst h; simp [hb]
  · simp [h, List.getElem?_set]
theorem SpI.mono (hI : SpI l n s K D x Pr found best h) {Pr' : Nat → Prop} (hp : ∀ i, i < l.length → Pr' i → Pr i) : SpI l n s K D x Pr' found best h :=
  { hI with pend := fun i u v w hE hu hv hf hx => hI.pend i u v w hE hu hv hf (hx.imp id (hp i hE.1)) }
theorem SpI.init (hR : RD l n s K D) (hs : s < n) : SpI l n s K D x Pr (List.replicate n false) (List.replicate n default) [⟨s, 0, 0, 0⟩] := by
  have hf : ∀ v, fnd (List.replicate n false) v = false := fun v => by by_cases hv : v < n <;> simp [fnd, hv]
  refine ⟨by simp, by simp, fun y hy => ?_, fun v _ h1 => (by rw [hf] at h1; cases h1), fun i u v w _ _ _ h1 => (by rw [hf] at h1; cases h1), .inr ⟨_, List.mem_cons_self .., rfl, Int.le_refl _⟩⟩
  simp only [List.mem_cons, List.not_mem_nil, or_false] at hy
  subst hy
  refine ⟨⟨s, hs, rfl, hR.src.1, by rw [hR.src.2]; exact Int.le_refl _⟩, ⟨Int.le_refl _, ?_⟩, by simp⟩
  have : openN (List.replicate n false) = n := by simp [openN]
  show (0 : Int) ≤ (n : Int) - openN (List.replicate n false)
  omega
/-- a node that is not found has a node before it that waits -/
theorem SpI.waits (hI : SpI l n s K D x (fun _ => True) found best h) (hok : RoadOk n l) (hR : RD l n s K D) : ∀ v, v < n → K v = true → fnd found v = false → ∃ y ∈ h, y.secs ≤ D v := by
  have key : ∀ (m : Nat) (v : Nat), v < n → K v = true → fnd found v = false → D v ≤ m → ∃ y ∈ h, y.secs ≤ D v := by
    intro m
    induction m with
    | zero =>
      intro v hv hk hf hm
      by_cases hvs : v = s
      · subst hvs
        rcases hI.src with q | ⟨y, hy, _, q⟩
        · rw [hf] at q; cases q
        · exact ⟨y, hy, by rw [hR.src.2]; exact q⟩
      · obtain ⟨u, i, w, hu, hku, hE, hd⟩ := hR.par v hv hk hvs
        have := hR.nn u hu hku
        have := hE.pos hok
        omega
    | succ m ih =>
      intro v hv hk hf hm
      by_cases hvs : v = s
      · subst hvs
        rcases hI.src with q | ⟨y, hy, _, q⟩
        · rw [hf] at q; cases q
        · exact ⟨y, hy, by rw [hR.src.2]; exact q⟩
      · obtain ⟨u, i, w, hu, hku, hE, hd⟩ := hR.par v hv hk hvs
        have hp := hE.pos hok
        cases hfu : fnd found u with
        | true =>
          rcases hI.pend i u v w hE hu hv hfu (.inr trivial) with q | ⟨y, hy, _, q⟩
          · rw [hf] at q; cases q
          · exact ⟨y, hy, by omega⟩
        | false =>
          obtain ⟨y, hy, q⟩ := ih u hu hku hfu (by omega)
          exact ⟨y, hy, by omega⟩
  intro v hv hk hf
  exact key (D v).toNat v hv hk hf (by omega)
theorem SpI.stale (hI : SpI l n s K D x (fun _ => True) found best h) {y : Ent} {h' : List Ent} (hp : (y :: h').Perm h) {v : Nat} (hy : y.node = v) (hv : fnd found v = true) : SpI l n s K D x (fun _ => True) found best h' :=
  { hI with
    ent := fun z hz => hI.ent z (hp.subset (List.mem_cons_of_mem _ hz))
    pend := fun i u b w hE hu hb hf hx => by
      rcases hI.pend i u b w hE hu hb hf hx with q | ⟨z, hz, q1, q2⟩
      · exact .inl q
      · rcases List.mem_cons.1 (hp.symm.subset hz) with rfl | hz
        · have : b = v := by omega
          subst this; exact .inl hv
        · exact .inr ⟨z, hz, q1, q2⟩
    src := by
      rcases hI.src with q | ⟨z, hz, q1, q2⟩
      · exact .inl q
      · rcases List.mem_cons.1 (hp.symm.subset hz) with rfl | hz
        · have : s = v := by omega
          subst this; exact .inl hv
        · exact .inr ⟨z, hz, q1, q2⟩ }
theorem SpI.fresh (hI : SpI l n s K D x (fun _ => True) found best h) (hok : RoadOk n l) (hR : RD l n s K D) {y : Ent} {h' : List Ent} (hp : (y :: h').Perm h) (hmin : ∀ z ∈ h, legLt z.secs z.edges y.secs y.edges = false) {v : Nat} (hy : y.node = v) (hv : v < n) (hf : fnd found v = false) :
    K v = true ∧ y.secs = D v ∧ (0 ≤ y.edges ∧ y.edges < (n : Int) - openN (found.set v true)) ∧ y.secs ≤ 1000 * y.edges ∧ SpI l n s K D v (fun _ => False) (found.set v true) (best.set v ⟨y.secs, y.edges⟩) h' := by
  have hmem : y ∈ h := hp.subset (List.mem_cons_self ..)
  obtain ⟨⟨v', _, e1, hk, hle⟩, he, hs1⟩ := hI.ent y hmem
  obtain rfl : v' = v := by omega
  obtain ⟨z, hz, hzs⟩ := hI.waits hok hR v' hv hk hf
  have h1 := hmin z hz
  unfold legLt at h1
  simp only [Bool.or_eq_false_iff, decide_eq_false_iff_not] at h1
  have hyd : y.secs = D v' := by omega
  have hvf : v' < found.length := by rw [hI.flen]; exact hv
  have hvb : v' < best.length := by rw [hI.blen]; exact hv
  have ho := openN_set found v' hvf hf
  have f1 : ∀ u, fnd (found.set v' true) u = true → u ≠ v' → fnd found u = true := fun u hu hne => by rw [fnd_set hvf, if_neg (Ne.symm hne)] at hu; exact hu
  have f2 : ∀ u, fnd found u = true → fnd (found.set v' true) u = true := fun u hu => by rw [fnd_set hvf]; split; rfl; exact hu
  have f3 : fnd (found.set v' true) v' = true := by rw [fnd_set hvf, if_pos rfl]
  refine ⟨hk, hyd, ⟨he.1, by omega⟩, hs1, ⟨by simp [hI.flen], by simp [hI.blen], fun z hz => ?_, fun u hu h2 => ?_, fun i u b w hE hu hb hfu hx => ?_, ?_⟩⟩
  · obtain ⟨q1, q2, q3⟩ := hI.ent z (hp.subset (List.mem_cons_of_mem _ hz))
    exact ⟨q1, ⟨q2.1, by omega⟩, q3⟩
  · rw [bst_set hvb]
    by_cases hu2 : u = v'
    · subst hu2; rw [if_pos rfl]; exact ⟨hk, hyd⟩
    · rw [if_neg (Ne.symm hu2)]; exact hI.fin u hu (f1 u h2 hu2)
  · have hux : u ≠ v' := by rcases hx with q | q; exact q; exact q.elim
    rcases hI.pend i u b w hE hu hb (f1 u hfu hux) (.inr trivial) with q | ⟨z, hz, q1, q2⟩
    · exact .inl (f2 b q)
    · rcases List.mem_cons.1 (hp.symm.subset hz) with rfl | hz
      · have : b = v' := by omega
        subst this; exact .inl f3
      · exact .inr ⟨z, hz, q1, q2⟩
  · rcases hI.src with q | ⟨z, hz, q1, q2⟩
    · exact .inl (f2 s q)
    · rcases List.mem_cons.1 (hp.symm.subset hz) with rfl | hz
      · have : s = v' := by omega
        subst this; exact .inl f3
      · exact .inr ⟨z, hz, q1, q2⟩
/-- an edge that is pushed -/
theorem SpI.push (hI : SpI l n s K D x Pr found best h) (hok : RoadOk n l) (hR : RD l n s K D) {i b : Nat} {w d e p : Int} {h' : List Ent} (hE : EdgeAt l i x b w) (hx : x < n) (hfx : fnd found x = true) (hb : b < n) (hd : d = D x) (he : 0 ≤ e ∧ e < (n : Int) - openN found) (hde : d ≤ 1000 * e) (hp : h'.Perm (h ++ [⟨b, d + w, e + 1, p⟩])) :
    SpI l n s K D x (fun j => Pr j ∨ j = i) found best h' := by
  have hw := hE.pos hok
  have hkx := (hI.fin x hx hfx).1
  have hcl := hR.clo i x b w hE hx hb hkx
  refine ⟨hI.flen, hI.blen, fun y hy => ?_, hI.fin, fun j u v w' hE' hu hv hf hor => ?_, ?_⟩
  · rcases List.mem_append.1 (hp.subset hy) with hy | hy
    · exact hI.ent y hy
    · simp only [List.mem_cons, List.not_mem_nil, or_false] at hy
      subst hy
      exact ⟨⟨b, hb, rfl, hcl.1, by show D b ≤ d + w; omega⟩, ⟨by show 0 ≤ e + 1; omega, by show e + 1 ≤ _; omega⟩, by show d + w ≤ 1000 * (e + 1); omega⟩
  · have old : (u ≠ x ∨ Pr j) → fnd found v = true ∨ ∃ y ∈ h', y.node = v ∧ y.secs ≤ D u + w' := fun q => by
      rcases hI.pend j u v w' hE' hu hv hf q with q | ⟨y, hy, q1, q2⟩
      · exact .inl q
      · exact .inr ⟨y, hp.symm.subset (List.mem_append_left _ hy), q1, q2⟩
    rcases hor with q | q | q
    · exact old (.inl q)
    · exact old (.inr q)
    · subst q
      obtain ⟨_, a1, a2, a3⟩ := hE
      obtain ⟨_, b1, b2, b3⟩ := hE'
      refine .inr ⟨_, hp.symm.subset (List.mem_append_right _ (List.mem_cons_self ..)), ?_, ?_⟩
      · show (b : Int) = v; omega
      · show d + w ≤ D u + w'
        have : u = x := by omega
        subst this; omega
  · rcases hI.src with q | ⟨y, hy, q1, q2⟩
    · exact .inl q
    · exact .inr ⟨y, hp.symm.subset (List.mem_append_left _ hy), q1, q2⟩
/-- an edge that is not -/
theorem SpI.pass (hI : SpI l n s K D x Pr found best h) {i : Nat} (hno : ∀ b w, EdgeAt l i x b w → fnd found b = true) : SpI l n s K D x (fun j => Pr j ∨ j = i) found best h :=
  { hI with pend := fun j u v w hE hu hv hf hor => by
                    rcases hor with q | q | q
                    · exact hI.pend j u v w hE hu hv hf (.inl q)
                    · exact hI.pend j u v w hE hu hv hf (.inr q)
                    · by_cases hux : u = x
                      · subst hux; subst q; exact .inl (hno v w hE)
                      · exact hI.pend j u v w hE hu hv hf (.inl hux) }
theorem SpI.done (hI : SpI l n s K D x (fun _ => True) found best []) (hok : RoadOk n l) (hR : RD l n s K D) : ∀ v, v < n → fnd found v = K v ∧ (K v = true → bst best v = D v) := fun v hv => by
  cases hk : K v with
  | true =>
    cases hf : fnd found v with
    | true => exact ⟨rfl, fun _ => (hI.fin v hv hf).2⟩
    | false => obtain ⟨y, hy, _⟩ := hI.waits hok hR v hv hk hf; cases hy
  | false =>
    cases hf : fnd found v with
    | true => have := (hI.fin v hv hf).1; rw [hk] at this; cases this
    | false => exact ⟨rfl, fun q => by cases q⟩
end
end Go.Proofs.Ytfddebpeiilohaa

/-
  Plain: rounds of relaxation on a road.
-/
set_option linter.all false
namespace Go.Proofs.Ytfddebpeiilohaa
open Go Go.W

def dAt (d : List Int) (v : Nat) : Int := d.getD v 0
theorem dAt_set {d : List Int} {b v : Nat} {y : Int} (hb : b < d.length) : dAt (d.set b y) v = if b = v then y else dAt d v := by
  unfold dAt
  by_cases h : b = v
  · subst h; simp [hb]
  · simp [h, List.getElem?_set]
/-- how many nodes are nearer -/
def rkOf (n : Nat) (K : Nat → Bool) (D : Nat → Int) (v : Nat) : Nat := (List.range n).countP fun x => K x && decide (D x < D v)
theorem rkOf_le (n : Nat) (K : Nat → Bool) (D : Nat → Int) (v : Nat) : rkOf n K D v ≤ n := by
  have h : rkOf n K D v ≤ (List.range n).length := List.countP_le_length
  simpa using h
theorem countP_lt {α : Type} {p q : α → Bool} : ∀ {l : List α} {x : α}, x ∈ l → (∀ y ∈ l, p y = true → q y = true) → p x = false → q x = true → l.countP p < l.countP q
  | [], _, h, _, _, _ => by cases h
  | a :: l, x, h, hpq, hp, hq => by
    have hle : l.countP p ≤ l.countP q := by
      clear h
      have hpq' : ∀ y ∈ l, p y = true → q y = true := fun y hy => hpq y (List.mem_cons_of_mem _ hy)
      clear hpq
      induction l with
      | nil => simp
      | cons b l ih =>
        have h1 := ih fun y hy => hpq' y (List.mem_cons_of_mem _ hy)
        have h2 := hpq' b (List.mem_cons_self ..)
        rw [List.countP_cons, List.countP_cons]
        cases hb : p b with
        | true => rw [h2 hb]; simp; exact h1
        | false => simp; omega
    rw [List.countP_cons, List.countP_cons]
    rcases List.mem_cons.1 h with rfl | h
    · rw [hp, hq]; simp; omega
    · have h1 := countP_lt h (fun y hy => hpq y (List.mem_cons_of_mem _ hy)) hp hq
      have h2 := hpq a (List.mem_cons_self ..)
      cases ha : p a with
      | true => rw [h2 ha]; simp; exact h1
      | false => simp; omega
theorem rkOf_lt {n : Nat} {K : Nat → Bool} {D : Nat → Int} {u v : Nat} (hu : u < n) (hk : K u = true) (h : D u < D v) : rkOf n K D u < rkOf n K D v := by
  refine countP_lt (x := u) (by simpa using hu) (fun y _ hy => ?_) (by simp) (by simp [hk, h])
  simp only [Bool.and_eq_true, decide_eq_true_eq] at hy ⊢
  exact ⟨hy.1, by omega⟩
structure BFR (l : List Edg) (n s : Nat) (K : Nat → Bool) (D : Nat → Int) (r : Nat) (Pr : Nat → Prop) (d ed : List Int) (c : Int) : Prop where
  dlen : d.length = n
  elen : ed.length = n
  unk : ∀ v, v < n → K v = false → dAt d v = 1099511627776
  lo : ∀ v, v < n → K v = true → D v ≤ dAt d v ∧ dAt d v ≤ 1099511627776
  rnd : ∀ v, v < n → K v = true → rkOf n K D v ≤ r → dAt d v = D v
  pr : ∀ i u v w, EdgeAt l i u v w → Pr i → u < n → v < n → K u = true → rkOf n K D u ≤ r → dAt d v ≤ D u + w
  ebd : ∀ v, v < n → 0 ≤ dAt ed v ∧ dAt ed v ≤ 1099511627776 + c
section
variable {l : List Edg} {n s : Nat} {K : Nat → Bool} {D : Nat → Int} {r : Nat} {Pr : Nat → Prop} {d ed : List Int} {c : Int}
theorem RD.bd (hR : RD l n s K D) (hok : RoadOk n l) : ∀ v, v < n → K v = true → D v ≤ 1000 * rkOf n K D v := by
  have key : ∀ (m v : Nat), v < n → K v = true → rkOf n K D v ≤ m → D v ≤ 1000 * rkOf n K D v := by
    intro m
    induction m with
    | zero =>
      intro v hv hk hm
      by_cases hvs : v = s
      · subst hvs; rw [hR.src.2]; omega
      · obtain ⟨u, i, w, hu, hku, hE, hd⟩ := hR.par v hv hk hvs
        have := hE.pos hok
        have := rkOf_lt (D := D) (v := v) hu hku (by omega)
        omega
    | succ m ih =>
      intro v hv hk hm
      by_cases hvs : v = s
      · subst hvs; rw [hR.src.2]; omega
      · obtain ⟨u, i, w, hu, hku, hE, hd⟩ := hR.par v hv hk hvs
        have := hE.pos hok
        have h1 := rkOf_lt (D := D) (v := v) hu hku (by omega)
        have h2 := ih u hu hku (by omega)
        omega
  exact fun v hv hk => key _ v hv hk (Nat.le_refl _)
theorem RD.small (hR : RD l n s K D) (hok : RoadOk n l) {v : Nat} (hv : v < n) (hk : K v = true) : 0 ≤ D v ∧ D v ≤ 64000 := by
  have h1 := hR.bd hok v hv hk
  have h2 := rkOf_le n K D v
  have h3 := hok.n2
  exact ⟨hR.nn v hv hk, by omega⟩
theorem BFR.mono (h : BFR l n s K D r Pr d ed c) {Pr' : Nat → Prop} {c' : Int} (hp : ∀ i, i < l.length → Pr' i → Pr i) (hc : c ≤ c') : BFR l n s K D r Pr' d ed c' :=
  { h with pr := fun i u v w hE hp' => h.pr i u v w hE (hp i hE.1 hp'), ebd := fun v hv => ⟨(h.ebd v hv).1, by have := (h.ebd v hv).2; omega⟩ }
theorem BFR.init (hR : RD l n s K D) (hok : RoadOk n l) (hs : s < n) : BFR l n s K D 0 (fun _ => False) ((List.replicate n 1099511627776).set s 0) ((List.replicate n 1099511627776).set s 0) 0 := by
  have hd : ∀ v, v < n → dAt ((List.replicate n 1099511627776).set s 0) v = if s = v then 0 else 1099511627776 := fun v hv => by rw [dAt_set (by simpa using hs)]; simp [dAt, hv]
  refine ⟨by simp, by simp, fun v hv hk => ?_, fun v hv hk => ?_, fun v hv hk hr => ?_, fun i u v w _ hp => hp.elim, fun v hv => ?_⟩
  · rw [hd v hv, if_neg (fun h => by subst h; rw [hR.src.1] at hk; cases hk)]
  · have := hR.small hok hv hk
    rw [hd v hv]
    split
    · rename_i h; subst h; rw [hR.src.2]; omega
    · omega
  · by_cases h : v = s
    · subst h; rw [hd v hv, if_pos rfl, hR.src.2]
    · obtain ⟨u, i, w, hu, hku, hE, hD⟩ := hR.par v hv hk h
      have := hE.pos hok
      have := rkOf_lt (D := D) (v := v) hu hku (by omega)
      omega
  · rw [hd v hv]; split <;> omega
theorem BFR.relax (h : BFR l n s K D r Pr d ed c) (hR : RD l n s K D) (hok : RoadOk n l) {i u v : Nat} {w : Int} (hE : EdgeAt l i u v w) (hu : u < n) (hv : v < n) (h1 : dAt d u < 1099511627776) (h2 : dAt d u + w ≤ dAt d v) :
    BFR l n s K D r (fun j => Pr j ∨ j = i) (d.set v (dAt d u + w)) (ed.set v (dAt ed u + 1)) (c + 1) := by
  have hku : K u = true := by
    cases hk : K u with
    | true => rfl
    | false => have := h.unk u hu hk; omega
  obtain ⟨hkv, hdv⟩ := hR.clo i u v w hE hu hv hku
  have hlu := h.lo u hu hku
  have hlv := h.lo v hv hkv
  have hvl : v < d.length := by rw [h.dlen]; exact hv
  have hve : v < ed.length := by rw [h.elen]; exact hv
  have d1 : ∀ x, x ≠ v → dAt (d.set v (dAt d u + w)) x = dAt d x := fun x hx => by rw [dAt_set hvl, if_neg (Ne.symm hx)]
  have d2 : dAt (d.set v (dAt d u + w)) v = dAt d u + w := by rw [dAt_set hvl, if_pos rfl]
  refine ⟨by simp [h.dlen], by simp [h.elen], fun x hx hk => ?_, fun x hx hk => ?_, fun x hx hk hr => ?_, fun j a b w' hE' hp ha hb hka hra => ?_, fun x hx => ?_⟩
  · rw [d1 x (fun he => by rw [he, hkv] at hk; cases hk)]; exact h.unk x hx hk
  · by_cases he : x = v
    · subst he; rw [d2]; omega
    · rw [d1 x he]; exact h.lo x hx hk
  · have h3 := h.rnd x hx hk hr
    by_cases he : x = v
    · subst he; rw [d2]; omega
    · rw [d1 x he]; exact h3
  · by_cases he : b = v
    · rw [he, d2]
      rcases hp with hp | rfl
      · have := h.pr j a b w' hE' hp ha hb hka hra; rw [he] at this; omega
      · obtain ⟨_, a1, a2, a3⟩ := hE
        obtain ⟨_, b1, b2, b3⟩ := hE'
        have e1 : a = u := by omega
        subst e1
        have := h.rnd a ha hka hra
        omega
    · rw [d1 b he]
      rcases hp with hp | rfl
      · exact h.pr j a b w' hE' hp ha hb hka hra
      · obtain ⟨_, a1, a2, a3⟩ := hE
        obtain ⟨_, b1, b2, b3⟩ := hE'
        exact absurd (by omega) he
  · rw [dAt_set hve]
    have h4 := h.ebd x hx
    have h5 := h.ebd u hu
    split <;> omega
theorem BFR.keep (h : BFR l n s K D r Pr d ed c) (hR : RD l n s K D) (hok : RoadOk n l) {i u v : Nat} {w : Int} (hE : EdgeAt l i u v w) (hno : ¬ (dAt d u < 1099511627776 ∧ dAt d u + w < dAt d v)) : BFR l n s K D r (fun j => Pr j ∨ j = i) d ed c :=
  { h with pr := fun j a b w' hE' hp ha hb hka hra => by
                  rcases hp with hp | rfl
                  · exact h.pr j a b w' hE' hp ha hb hka hra
                  · obtain ⟨_, a1, a2, a3⟩ := hE
                    obtain ⟨_, b1, b2, b3⟩ := hE'
                    have e1 : a = u := by omega
                    have e2 : b = v := by omega
                    subst e1 e2
                    have h1 := h.rnd a ha hka hra
                    have h2 := hR.small hok ha hka
                    have h4 : ¬ (dAt d a + w < dAt d b) := fun q => hno ⟨by omega, q⟩
                    omega }
theorem BFR.round (h : BFR l n s K D r (fun i => i < l.length) d ed c) (hR : RD l n s K D) (hok : RoadOk n l) (hs : s < n) : BFR l n s K D (r + 1) (fun i => i < 0) d ed c :=
  { h with
    rnd := fun v hv hk hr => by
      by_cases hvs : v = s
      · by_cases hr2 : rkOf n K D v ≤ r
        · exact h.rnd v hv hk hr2
        · subst hvs
          have h0 : rkOf n K D v = 0 := by
            unfold rkOf
            rw [List.countP_eq_zero]
            intro x hx
            simp only [Bool.and_eq_true, decide_eq_true_eq, not_and]
            intro hkx
            have := hR.nn x (by simpa using hx) hkx
            rw [hR.src.2]; omega
          omega
      · obtain ⟨u, i, w, hu, hku, hE, hD⟩ := hR.par v hv hk hvs
        have hp := hE.pos hok
        have h0 := rkOf_lt (D := D) (v := v) hu hku (by omega)
        have h1 := h.pr i u v w hE hE.1 hu hv hku (by omega)
        have h2 := h.lo v hv hk
        omega
    pr := fun i u v w _ hp => absurd hp (by omega) }
theorem BFR.done (h : BFR l n s K D r Pr d ed c) (hr : n ≤ r) : ∀ v, v < n → dAt d v = if K v = true then D v else 1099511627776 := fun v hv => by
  cases hk : K v with
  | true => rw [if_pos rfl]; exact h.rnd v hv hk (by have := rkOf_le n K D v; omega)
  | false => rw [if_neg (by simp)]; exact h.unk v hv hk
end
def rv (a : Edg) : Edg := ⟨a.t, a.f, a.secs⟩
theorem rv_rv (l : List Edg) : (l.map rv).map rv = l := by
  rw [List.map_map]
  have : rv ∘ rv = id := by funext a; rfl
  rw [this, List.map_id]
theorem RoadOk.rv {n : Nat} {l : List Edg} (h : RoadOk n l) : RoadOk n (l.map rv) := by
  refine ⟨h.n1, h.n2, by simpa using h.len, fun a ha => ?_, fun a ha => ?_⟩
  · obtain ⟨b, hb, rfl⟩ := List.mem_map.1 ha
    exact ⟨(h.nodes b hb).2, (h.nodes b hb).1⟩
  · obtain ⟨b, hb, rfl⟩ := List.mem_map.1 ha
    exact h.secs b hb
end Go.Proofs.Ytfddebpeiilohaa

/-
  Walks: road.node, road.Check, forward.
-/
set_option linter.all false
namespace Go.Proofs.Ytfddebpeiilohaa
open Go Go.W Go.RowKit

theorem roadNode (n k : Int) (A : Option Addr) (m cap : Nat) (w0 : World) :
    Calls Try.prog 68 #[.agg #[I n, .slice A m cap], I k] w0 fun e w' => e = .returned (.bool (isNode n k)) ∧ Below w0.heap.size w0 w' := by
  have H := SH.refl w0
  refine Calls.ofWP Try.func68 rfl Try.results68 Try.ntmps68 rfl ?_
  refine WP.seq ?_
  refine WP.region ?_
  refine OPS.box rfl rfl rfl rfl (cA rfl) H ?_
  clear H; intro g2 w H
  refine OPS.val rfl rfl rfl (Ev.asB rfl) ?_
  refine OPS.nil ?_
  refine WP.seq ?_
  refine WP.region ?_
  refine OPS.val rfl rfl rfl (Ev.mvI rfl) ?_
  refine OPS.val rfl rfl rfl (Ev.leq rfl rfl) ?_
  refine OPS.val rfl rfl rfl (Ev.mvB rfl) ?_
  refine OPS.gval rfl rfl rfl rfl rfl (fun hg => Ev.mvI (by rfl)) ?_
  refine OPS.gval rfl rfl rfl rfl rfl (fun hg => Ev.fieldAddr (fld_run rfl) (by rfl)) ?_
  refine OPS.gval rfl rfl rfl rfl rfl (fun hg => Ev.load1 (agg_run rfl) (by exact gvE hg rfl) (by exact H.ldL 0 rfl _ rfl)) ?_
  refine OPS.gval rfl rfl rfl rfl rfl (fun hg => Ev.lss (by exact gvE hg rfl) (by exact gvE hg rfl)) ?_
  refine OPS.val rfl rfl rfl ((by exact Ev.pickAnd rfl rfl rfl)) ?_
  refine OPS.val rfl rfl rfl (Ev.asB rfl) ?_
  refine OPS.nil ?_
  refine WP.ret ⟨_, rfl, ?_⟩
  exact ⟨rfl, H.below⟩

set_option maxHeartbeats 400000 in
theorem roadCheck (n : Int) (A : Option Addr) (l : List Edg) (cap : Nat) (w0 : World) (hz : EdgsAt w0 A l) :
    Calls Try.prog 49 #[.agg #[I n, .slice A l.length cap]] w0 fun e w' => e = .returned (I (roadErr n l)) ∧ Below w0.heap.size w0 w' := by
  have H := SH.refl w0
  refine Calls.ofWP Try.func49 rfl Try.results49 Try.ntmps49 rfl ?_
  refine WP.seq ?_
  refine WP.region ?_
  refine OPS.box rfl rfl rfl rfl (cA rfl) H ?_
  clear H; intro g1 w H
  refine OPS.val rfl rfl rfl (Ev.asI rfl) ?_
  refine OPS.nil ?_
  refine WP.seq ?_
  refine WP.seq ?_
  refine WP.region ?_
  refine OPS.val rfl rfl rfl (Ev.fieldAddr (fld_run rfl) rfl) ?_
  refine OPS.val rfl rfl rfl (Ev.load1 (agg_run rfl) rfl (by exact H.ldL 0 rfl _ rfl)) ?_
  refine OPS.val rfl rfl rfl (Ev.lss rfl rfl) ?_
  refine OPS.val rfl rfl rfl (Ev.mvB rfl) ?_
  refine OPS.gval rfl rfl rfl rfl rfl (fun hg => Ev.fieldAddr (fld_run rfl) (by rfl)) ?_
  refine OPS.gval rfl rfl rfl rfl rfl (fun hg => Ev.load1 (agg_run rfl) (by exact gvE hg rfl) (by exact H.ldL 0 rfl _ rfl)) ?_
  refine OPS.gval rfl rfl rfl rfl rfl (fun hg => Ev.gtr (by exact gvE hg rfl) (by rfl)) ?_
  refine OPS.val rfl rfl rfl ((by exact Ev.pickOr rfl rfl rfl)) ?_
  refine OPS.nil ?_
  refine WP.cond rfl (fun hc1 => ?_) (fun hc1 => ?_)
  · refine WP.seq ?_
    refine WP.region ?_
    refine OPS.val rfl rfl rfl (Ev.asI rfl) ?_
    refine OPS.nil ?_
    refine WP.ret ⟨_, rfl, ?_⟩
    exact ⟨by rw [roadErr, if_pos hc1]; rfl, H.below⟩
  refine WP.skip ?_
  refine WP.seq ?_
  refine WP.seq ?_
  refine WP.region ?_
  refine OPS.val rfl rfl rfl (Ev.fieldAddr (fld_run rfl) rfl) ?_
  refine OPS.val rfl rfl rfl (Ev.load1 (agg_run rfl) rfl (by exact H.ldL 0 rfl _ rfl)) ?_
  refine OPS.val rfl rfl rfl (Ev.len (el_run rfl) rfl) ?_
  refine OPS.val rfl rfl rfl (Ev.gtr rfl rfl) ?_
  refine OPS.nil ?_
  refine WP.cond rfl (fun hc3 => ?_) (fun hc3 => ?_)
  · refine WP.seq ?_
    refine WP.region ?_
    refine OPS.val rfl rfl rfl (Ev.asI rfl) ?_
    refine OPS.nil ?_
    refine WP.ret ⟨_, rfl, ?_⟩
    exact ⟨by rw [roadErr, if_neg (by simp [hc1]), if_pos (by simpa using hc3)]; rfl, H.below⟩
  have hl : l.length ≤ 512 := by simp at hc3; omega
  have e0 : roadErr n l = edgsErr n l := by rw [roadErr, if_neg (by simp [hc1]), if_neg (by simpa using hc3)]
  refine WP.skip ?_
  refine WP.seq ?_
  refine WP.seq ?_
  refine WP.region ?_
  refine OPS.val rfl rfl rfl (Ev.fieldAddr (fld_run rfl) rfl) ?_
  refine OPS.val rfl rfl rfl (Ev.load1 (agg_run rfl) rfl (by exact H.ldL 0 rfl _ rfl)) ?_
  refine OPS.val rfl rfl rfl (Ev.len (el_run rfl) rfl) ?_
  refine OPS.val rfl rfl rfl (Ev.mvI rfl) ?_
  refine OPS.nil ?_
  refine WP.block ?_
  refine WP.loop [2, 4, 20, 21, 22, 23, 24, 25, 26, 27, 28, 29, 30, 31, 32, 33, 34, 35, 36, 37, 38, 39, 40, 41, 42, 43, 44] (fun k e w' => ∃ j : Nat, j + k = l.length ∧ e 20 = .int .i64 j ∧ SH w0 [] w' [⟨g1, 24, [I n, .slice A l.length cap]⟩] ∧ ∀ i (hi : i < l.length), i < j → edgBad n l[i] = false ∧ edgRange l[i] = false) (l.length) (⟨0, by omega, rfl, H, fun i _ hi => absurd hi (by omega)⟩) ?_
  clear H
  rintro k u w ⟨j, hk, h20, H, hall⟩
  refine WP.know (t := 20) h20 ?_
  refine WP.seq ?_
  refine WP.region ?_
  refine OPS.val rfl rfl rfl (Ev.lss rfl rfl) ?_
  refine OPS.nil ?_
  refine WP.seq ?_
  refine WP.cond rfl (fun hc6 => ?_) (fun hc6 => ?_)
  · have hlt : j < l.length := by simpa using hc6
    obtain ⟨b, o, rfl, hc⟩ := hz j hlt
    have hc' := cellsAt_sh H hc
    refine WP.skip ?_
    refine WP.seq ?_
    refine WP.block ?_
    refine WP.seq ?_
    refine WP.region ?_
    refine OPS.val rfl rfl rfl ((by exact Ev.indexAddr (el_run rfl) (size_run rfl) rfl rfl rfl (by omega))) ?_
    refine OPS.val rfl rfl rfl ((by (change Ev _ _ _ _ (Op.load 72 (Operand.tmp 22)) _; exact Ev.loadN (edgCells l[j]) (agg_run rfl) (size_run rfl) rfl hc'))) ?_
    refine OPS.alloc rfl rfl rfl rfl (zero_run rfl) rfl H ?_
    clear H; intro g4 w H
    refine OPS.store 0 _ rfl rfl rfl (size_run rfl) rfl (cA rfl) rfl rfl H rfl (by simp) ?_
    clear H; intro w H; try simp only [List.set_cons_zero, List.set_cons_succ, putL, Nat.zero_add] at H
    refine OPS.nil ?_
    refine WP.seq ?_
    refine WP.seq ?_
    refine WP.region ?_
    refine OPS.val rfl rfl rfl ((by exact Ev.loadO 1 H rfl (agg_run rfl) (size_run rfl) (by rfl) rfl)) ?_
    refine OPS.val rfl rfl rfl (Ev.fieldAddr (fld_run rfl) rfl) ?_
    refine OPS.val rfl rfl rfl (Ev.load1 (agg_run rfl) rfl (by exact H.ldL 0 rfl _ rfl)) ?_
    refine OPS.call (d := some 27) rfl rfl rfl (EvC.func (fun_run rfl)) (roadNode n l[j].f _ _ _ _) ?_
    rintro _ w ⟨rfl, hb⟩
    refine ⟨_, rfl, ?_⟩
    replace H := H.toBelow hb; clear hb
    refine OPS.val rfl rfl rfl (Ev.not rfl) ?_
    refine OPS.val rfl rfl rfl (Ev.mvB rfl) ?_
    refine OPS.gval rfl rfl rfl rfl rfl (fun hg => (by exact Ev.loadO 1 H rfl (agg_run rfl) (size_run rfl) (by rfl) rfl)) ?_
    refine OPS.gval rfl rfl rfl rfl rfl (fun hg => Ev.fieldAddr (fld_run rfl) (by rfl)) ?_
    refine OPS.gval rfl rfl rfl rfl rfl (fun hg => Ev.load1 (agg_run rfl) (by exact gvE hg rfl) (by exact H.ldL 0 rfl _ rfl)) ?_
    refine OPS.gcall0 (f := 68) (roadNode n l[j].t _ _ _ _) (fun _ _ h => h) rfl rfl rfl rfl rfl (fun hg => EvC.conv (EvC.func (fun_run rfl)) (l2 (by exact gvE hg rfl) (by exact gvE hg rfl))) ?_
    intro w hbc; replace H := H.toBelow hbc
    refine OPS.gval rfl rfl rfl rfl rfl (fun hg => Ev.not (by exact gvE hg rfl)) ?_
    refine OPS.val rfl rfl rfl ((by exact Ev.pickOr rfl rfl rfl)) ?_
    refine OPS.nil ?_
    refine WP.cond rfl (fun hc8 => ?_) (fun hc8 => ?_)
    · refine WP.seq ?_
      refine WP.region ?_
      refine OPS.val rfl rfl rfl (Ev.asI rfl) ?_
      refine OPS.nil ?_
      refine WP.ret ⟨_, rfl, ?_⟩
      exact ⟨by rw [e0, edgsErr_drop (by omega) hall, List.drop_eq_getElem_cons hlt, edgsErr, if_pos (show edgBad n l[j] = true from hc8)]; rfl, H.below⟩
    refine WP.skip ?_
    refine WP.seq ?_
    refine WP.region ?_
    refine OPS.val rfl rfl rfl (Ev.fieldAddr (fld_run rfl) rfl) ?_
    refine OPS.val rfl rfl rfl (Ev.load1 (agg_run rfl) rfl (by exact H.ldL 0 rfl _ rfl)) ?_
    refine OPS.val rfl rfl rfl (Ev.lss rfl rfl) ?_
    refine OPS.val rfl rfl rfl (Ev.mvB rfl) ?_
    refine OPS.gval rfl rfl rfl rfl rfl (fun hg => Ev.fieldAddr (fld_run rfl) (by rfl)) ?_
    refine OPS.gval rfl rfl rfl rfl rfl (fun hg => Ev.load1 (agg_run rfl) (by exact gvE hg rfl) (by exact H.ldL 0 rfl _ rfl)) ?_
    refine OPS.gval rfl rfl rfl rfl rfl (fun hg => Ev.gtr (by exact gvE hg rfl) (by rfl)) ?_
    refine OPS.val rfl rfl rfl ((by exact Ev.pickOr rfl rfl rfl)) ?_
    refine OPS.nil ?_
    refine WP.cond rfl (fun hc10 => ?_) (fun hc10 => ?_)
    · refine WP.seq ?_
      refine WP.region ?_
      refine OPS.val rfl rfl rfl (Ev.asI rfl) ?_
      refine OPS.nil ?_
      refine WP.ret ⟨_, rfl, ?_⟩
      exact ⟨by rw [e0, edgsErr_drop (by omega) hall, List.drop_eq_getElem_cons hlt, edgsErr, if_neg (by rw [show edgBad n l[j] = false from hc8]; simp), if_pos (show edgRange l[j] = true from hc10)]; rfl, H.below⟩
    refine WP.skip ?_
    refine WP.region ?_
    refine OPS.val rfl rfl rfl (Ev.add rfl rfl (by unfold fits; omega)) ?_
    refine OPS.val rfl rfl rfl (Ev.mvI rfl) ?_
    refine OPS.nil ?_
    refine ⟨(by repeat (first | exact Agree.refl _ _ | exact Agree.mix _ _ _ | refine Agree.upd rfl ?_ | refine Agree.mix2 rfl ?_)), k - 1, by omega, j + 1, by omega, rfl, H.drop (by simp), fun i hi hij => ?_⟩
    rcases Nat.lt_succ_iff_lt_or_eq.1 hij with h | rfl
    · exact hall i hi h
    · exact ⟨hc8, hc10⟩
  refine WP.exit ?_
  refine XB.hit ?_
  refine WP.seq ?_
  refine WP.region ?_
  refine OPS.val rfl rfl rfl (Ev.asI rfl) ?_
  refine OPS.nil ?_
  refine WP.ret ⟨_, rfl, ?_⟩
  have : j = l.length := by simp at hc6; omega
  subst this
  exact ⟨by rw [e0, edgsErr_drop (by omega) hall]; simp [edgsErr]; rfl, H.below⟩

theorem roadForward (a b s : Int) (w0 : World) :
    Calls Try.prog 96 #[.agg #[I a, I b, I s]] w0 fun e w' => e = .returned (.tuple #[I a, I b]) ∧ Below w0.heap.size w0 w' := by
  have H := SH.refl w0
  refine Calls.ofWP Try.func96 rfl Try.results96 Try.ntmps96 rfl ?_
  refine WP.seq ?_
  refine WP.region ?_
  refine OPS.box rfl rfl rfl rfl (cA rfl) H ?_
  clear H; intro g1 w H
  refine OPS.val rfl rfl rfl (Ev.asI rfl) ?_
  refine OPS.val rfl rfl rfl (Ev.asI rfl) ?_
  refine OPS.nil ?_
  refine WP.seq ?_
  refine WP.rstill mixed (by kernel_rfl) H ?_
  clear H; intro w hbw1 H
  refine OPS.val rfl rfl rfl (Ev.fieldAddr (fld_run rfl) rfl) ?_
  refine OPS.val rfl rfl rfl (Ev.load1 (agg_run rfl) rfl (by exact H.ldL 0 rfl _ rfl)) ?_
  refine OPS.val rfl rfl rfl (Ev.fieldAddr (fld_run rfl) rfl) ?_
  refine OPS.val rfl rfl rfl (Ev.load1 (agg_run rfl) rfl (by exact H.ldL 0 rfl _ rfl)) ?_
  refine OPS.val rfl rfl rfl (Ev.asI rfl) ?_
  refine OPS.val rfl rfl rfl (Ev.asI rfl) ?_
  refine OPS.nil_s ?_
  refine WP.ret ⟨_, rfl, ?_⟩
  exact ⟨rfl, H.below⟩
end Go.Proofs.Ytfddebpeiilohaa
