/-
  Plain: flows on a list of arcs: what flows out of a set of nodes; cuts; a push along a chain.
-/
import Derived.Test.YtgjfjbphngamgaaFT3
set_option linter.all false
namespace Go.Proofs.Ytgjfjbphngamgaa.Flo
open Go Go.W

/-- what flows out by a potential: the sum over the arcs of on * (p from - p to) -/
def netOut (p : Int → Int) : List Arc → List Int → Int
  | a :: l, x :: on => x * (p a.f - p a.t) + netOut p l on
  | _, _ => 0
def ind (v : Int) : Int → Int := fun u => if u = v then 1 else 0
def NodesOk (n : Nat) (l : List Arc) : Prop := ∀ a ∈ l, (0 ≤ a.f ∧ a.f < n) ∧ (0 ≤ a.t ∧ a.t < n)
structure VFlow (l : List Arc) (on : List Int) : Prop where
  len : on.length = l.length
  bd : ∀ i (h : i < l.length) (h2 : i < on.length), 0 ≤ on[i] ∧ on[i] ≤ l[i].cap
/-- a flow of an amount -/
structure IsFlow (n : Nat) (l : List Arc) (s t : Int) (on : List Int) (amt : Int) : Prop where
  v : VFlow l on
  cons : ∀ u : Int, 0 ≤ u → u < n → u ≠ s → u ≠ t → netOut (ind u) l on = 0
  amt : netOut (ind s) l on = amt
def cutCap (S : Int → Bool) : List Arc → Int
  | [] => 0
  | a :: l => (if (S a.f && !S a.t) = true then a.cap else 0) + cutCap S l
def sumTo (f : Int → Int) : Nat → Int
  | 0 => 0
  | n + 1 => sumTo f n + f n
theorem sumTo_zero (n : Nat) : sumTo (fun _ => 0) n = 0 := by
  induction n with
  | zero => rfl
  | succ n ih => simp [sumTo, ih]
theorem sumTo_add (f g : Int → Int) (n : Nat) : sumTo (fun u => f u + g u) n = sumTo f n + sumTo g n := by
  induction n with
  | zero => rfl
  | succ n ih => simp only [sumTo, ih]; omega
theorem sumTo_congr {f g : Int → Int} {n : Nat} (h : ∀ u : Int, 0 ≤ u → u < n → f u = g u) : sumTo f n = sumTo g n := by
  induction n with
  | zero => rfl
  | succ n ih => simp only [sumTo]; rw [ih fun u h1 h2 => h u h1 (by omega), h n (by omega) (by omega)]
theorem sumTo_pick (q : Int → Int) (v : Int) (c : Int) : ∀ n : Nat, 0 ≤ v → v < n → sumTo (fun u => q u * (c * ind u v)) n = q v * c
  | 0, h0, h => by omega
  | n + 1, h0, h => by
    simp only [sumTo]
    by_cases hv : v = n
    · subst hv
      have : sumTo (fun u => q u * (c * ind u (n : Int))) n = sumTo (fun _ => 0) n := sumTo_congr fun u h1 h2 => by
        rw [show ind u (n : Int) = 0 from if_neg (by omega)]; simp
      rw [this, sumTo_zero]; simp [ind]
    · rw [sumTo_pick q v c n h0 (by omega)]; simp [ind, hv]
theorem sumTo_mul_add (q f g : Int → Int) (n : Nat) : sumTo (fun u => q u * (f u + g u)) n = sumTo (fun u => q u * f u) n + sumTo (fun u => q u * g u) n := by
  rw [← sumTo_add]; exact sumTo_congr fun u _ _ => Int.mul_add _ _ _
/-- a potential's outflow is the sum of the nodes' -/
theorem netOut_sum (n : Nat) (p : Int → Int) : ∀ (l : List Arc) (on : List Int), NodesOk n l → netOut p l on = sumTo (fun u => p u * netOut (ind u) l on) n
  | [], on, _ => by simp [netOut, sumTo_zero]
  | a :: l, [], _ => by simp [netOut, sumTo_zero]
  | a :: l, x :: on, h => by
    have ha := h a (List.mem_cons_self ..)
    have ih := netOut_sum n p l on fun b hb => h b (List.mem_cons_of_mem _ hb)
    have e1 : sumTo (fun u => p u * netOut (ind u) (a :: l) (x :: on)) n = sumTo (fun u => p u * (x * ind u a.f)) n + (sumTo (fun u => p u * (-x * ind u a.t)) n + sumTo (fun u => p u * netOut (ind u) l on) n) := by
      rw [← sumTo_add, ← sumTo_add]
      refine sumTo_congr fun u _ _ => ?_
      simp only [netOut, Int.mul_add, Int.mul_sub, Int.neg_mul, Int.mul_neg]
      omega
    rw [e1, sumTo_pick p a.f x n ha.1.1 ha.1.2, sumTo_pick p a.t (-x) n ha.2.1 ha.2.2, ← ih]
    simp only [netOut, Int.mul_sub, Int.mul_neg, Int.mul_comm]
    omega
theorem sumTo_single (f : Int → Int) (v : Int) : ∀ n : Nat, 0 ≤ v → v < n → (∀ u : Int, 0 ≤ u → u < n → u ≠ v → f u = 0) → sumTo f n = f v
  | 0, h0, h, _ => by omega
  | n + 1, h0, h, hz => by
    simp only [sumTo]
    by_cases hv : v = n
    · subst hv
      rw [show sumTo f n = sumTo (fun _ => 0) n from sumTo_congr fun u h1 h2 => hz u h1 (by omega) (by omega), sumTo_zero]; omega
    · rw [sumTo_single f v n h0 (by omega) fun u h1 h2 h3 => hz u h1 (by omega) h3, hz n (by omega) (by omega) (fun h => hv h.symm)]; omega
def indB (S : Int → Bool) : Int → Int := fun u => if S u = true then 1 else 0
/-- the amount is what flows out of any set with s and without t -/
theorem IsFlow.set {n : Nat} {l : List Arc} {s t : Int} {on : List Int} {amt : Int} (hf : IsFlow n l s t on amt) (hn : NodesOk n l) (hs : 0 ≤ s ∧ s < n) {S : Int → Bool} (h1 : S s = true) (h2 : S t = false) : netOut (indB S) l on = amt := by
  rw [netOut_sum n _ l on hn, sumTo_single _ s n hs.1 hs.2, hf.amt]
  · simp [indB, h1]
  · intro u hu0 hu1 hus
    by_cases hut : u = t
    · subst hut; simp [indB, h2]
    · rw [hf.cons u hu0 hu1 hus hut]; simp
theorem netOut_le_cut (S : Int → Bool) : ∀ (l : List Arc) (on : List Int), VFlow l on → netOut (indB S) l on ≤ cutCap S l
  | [], [], _ => by simp [netOut, cutCap]
  | a :: l, x :: on, h => by
    have h0 := h.bd 0 (by simp) (by simp)
    simp only [List.getElem_cons_zero] at h0
    have ih := netOut_le_cut S l on ⟨by simpa using h.len, fun i hi hi2 => h.bd (i + 1) (Nat.succ_lt_succ hi) (Nat.succ_lt_succ hi2)⟩
    simp only [netOut, cutCap, indB]
    cases S a.f <;> cases S a.t <;> simp <;> omega
  | [], _ :: _, h => by have := h.len; simp at this
  | _ :: _, [], h => by have := h.len; simp at this
/-- no flow is greater than a cut -/
theorem weak_dual {n : Nat} {l : List Arc} {s t : Int} {on : List Int} {amt : Int} (hf : IsFlow n l s t on amt) (hn : NodesOk n l) (hs : 0 ≤ s ∧ s < n) {S : Int → Bool} (h1 : S s = true) (h2 : S t = false) : amt ≤ cutCap S l := by
  rw [← hf.set hn hs h1 h2]; exact netOut_le_cut S l on hf.v
/-- where the arcs out are full and the arcs in empty, the flow out is the cut -/
theorem netOut_eq_cut (S : Int → Bool) : ∀ (l : List Arc) (on : List Int), on.length = l.length → (∀ i (h : i < l.length) (h2 : i < on.length), (S l[i].f = true → S l[i].t = false → on[i] = l[i].cap) ∧ (S l[i].f = false → S l[i].t = true → on[i] = 0)) → netOut (indB S) l on = cutCap S l
  | [], [], _, _ => by simp [netOut, cutCap]
  | a :: l, x :: on, hl, h => by
    have h0 := h 0 (by simp) (by simp)
    simp only [List.getElem_cons_zero] at h0
    have ih := netOut_eq_cut S l on (by simpa using hl) fun i hi hi2 => h (i + 1) (Nat.succ_lt_succ hi) (Nat.succ_lt_succ hi2)
    simp only [netOut, cutCap, indB]
    cases hf : S a.f <;> cases ht : S a.t <;> simp [hf, ht] at h0 ⊢ <;> omega
  | [], _ :: _, h, _ => by simp at h
  | _ :: _, [], h, _ => by simp at h
/-- one arc changed -/
theorem netOut_set (p : Int → Int) : ∀ (l : List Arc) (on : List Int) (i : Nat) (x : Int) (h : i < l.length) (h2 : i < on.length), netOut p l (on.set i x) = netOut p l on + (x - on[i]) * (p l[i].f - p l[i].t)
  | [], _, _, _, h, _ => by simp at h
  | _ :: _, [], _, _, _, h => by simp at h
  | a :: l, y :: on, 0, x, _, _ => by simp only [List.set_cons_zero, netOut, List.getElem_cons_zero, Int.sub_mul]; omega
  | a :: l, y :: on, i + 1, x, h, h2 => by
    simp only [List.set_cons_succ, netOut, List.getElem_cons_succ]
    rw [netOut_set p l on i x (by simpa using h) (by simpa using h2)]; omega
theorem cutCap_nonneg (S : Int → Bool) : ∀ l : List Arc, (∀ a ∈ l, 0 ≤ a.cap) → 0 ≤ cutCap S l
  | [], _ => by simp [cutCap]
  | a :: l, h => by
    have := cutCap_nonneg S l fun b hb => h b (List.mem_cons_of_mem _ hb)
    have := h a (List.mem_cons_self ..)
    simp only [cutCap]; split <;> omega
theorem cutCap_le (S : Int → Bool) : ∀ l : List Arc, (∀ a ∈ l, 0 ≤ a.cap ∧ a.cap ≤ 65536) → cutCap S l ≤ 65536 * l.length
  | [], _ => by simp [cutCap]
  | a :: l, h => by
    have := cutCap_le S l fun b hb => h b (List.mem_cons_of_mem _ hb)
    have := h a (List.mem_cons_self ..)
    simp only [cutCap, List.length_cons]; split <;> omega
/-- THE GREATEST AMOUNT: a flow of the amount, and a cut of the capacity -/
def IsMax (n : Nat) (l : List Arc) (s t amt : Int) : Prop := (∃ on, IsFlow n l s t on amt) ∧ ∃ S : Int → Bool, S s = true ∧ S t = false ∧ cutCap S l = amt
theorem IsMax.unique {n : Nat} {l : List Arc} {s t a b : Int} (hn : NodesOk n l) (hs : 0 ≤ s ∧ s < n) (ha : IsMax n l s t a) (hb : IsMax n l s t b) : a = b := by
  obtain ⟨⟨on, h1⟩, S, h2, h3, h4⟩ := ha
  obtain ⟨⟨on', g1⟩, S', g2, g3, g4⟩ := hb
  have := weak_dual h1 hn hs g2 g3
  have := weak_dual g1 hn hs h2 h3
  omega
end Go.Proofs.Ytgjfjbphngamgaa.Flo

/-
  Plain: what reach finds: a set closed under the arcs that can take more, each node with the arc by which it was reached.
-/
set_option linter.all false
namespace Go.Proofs.Ytgjfjbphngamgaa.Flo
open Go Go.W

def kn (sts : List Step) (v : Nat) : Bool := (sts.getD v default).known
def dp (sts : List Step) (v : Nat) : Int := (sts.getD v default).depth
def Edge (l : List Arc) (on : List Int) (x : Step) (p v : Nat) : Prop :=
  x.from_ = p ∧ ∃ ai : Nat, x.arc = ai ∧ ∃ (h : ai < l.length) (h2 : ai < on.length),
    (x.fwd = true → l[ai].f = p ∧ l[ai].t = v ∧ x.room = l[ai].cap - on[ai] ∧ on[ai] < l[ai].cap) ∧ (x.fwd = false → l[ai].t = p ∧ l[ai].f = v ∧ x.room = on[ai] ∧ 0 < on[ai])
structure BI (l : List Arc) (on : List Int) (n : Nat) (d : Int) (sts0 r : List Step) : Prop where
  len : r.length = n
  old : ∀ v, v < n → kn sts0 v = true → r.getD v default = sts0.getD v default
  new : ∀ v, v < n → kn r v = true → kn sts0 v = false → dp r v = d + 1 ∧ ∃ p, p < n ∧ kn sts0 p = true ∧ dp sts0 p = d ∧ Edge l on (r.getD v default) p v
theorem getD_set {sts : List Step} {b v : Nat} {x : Step} (hb : b < sts.length) : (sts.set b x).getD v default = if b = v then x else sts.getD v default := by
  by_cases h : b = v
  · subst h; simp [hb]
  · simp [h, List.getElem?_set]
theorem vis_BI {l : List Arc} {on : List Int} {n : Nat} {d : Int} {sts0 : List Step} {r : RSt} (h : BI l on n d sts0 r.1) {a b : Nat} (ha : a < n) (hb : b < n) {arc : Nat} {room cost : Int} {fwd : Bool}
    (hE : Edge l on ⟨a, arc, room, fwd, true, d + 1⟩ a b) :
    BI l on n d sts0 (visR d r a b arc room cost fwd).1 ∧ (kn sts0 a = true → dp sts0 a = d → kn (visR d r a b arc room cost fwd).1 b = true) ∧ ∀ v, kn r.1 v = true → kn (visR d r a b arc room cost fwd).1 v = true := by
  have hbl : b < r.1.length := by rw [h.len]; exact hb
  unfold visR
  simp only [Int.toNat_natCast]
  by_cases hc : visC d r a b = true
  · simp only [hc, if_true]
    unfold visC at hc
    simp only [Bool.and_eq_true, Bool.not_eq_true', decide_eq_true_eq] at hc
    obtain ⟨⟨⟨h1, h2⟩, h3⟩, _⟩ := hc
    have hka : kn sts0 a = true := by
      cases hk : kn sts0 a with
      | true => rfl
      | false => have := (h.new a ha h1 hk).1; unfold dp at this; omega
    have hea := h.old a ha hka
    refine ⟨⟨by simp [h.len], fun v hv hkv => ?_, fun v hv hkv hk0 => ?_⟩, fun _ _ => by simp [kn, hbl], fun v hv => ?_⟩
    · rw [getD_set hbl]
      split
      · rename_i he; subst he
        have := h.old b hv hkv
        unfold kn at hkv
        rw [this] at h3; rw [h3] at hkv; cases hkv
      · exact h.old v hv hkv
    · unfold dp
      rw [getD_set hbl]
      by_cases he : b = v
      · subst he
        simp only [if_true]
        exact ⟨trivial, a, ha, hka, by rw [← hea]; exact h2, hE⟩
      · simp only [if_neg he]
        have hkv' : kn r.1 v = true := by unfold kn at hkv ⊢; rw [getD_set hbl, if_neg he] at hkv; exact hkv
        exact h.new v hv hkv' hk0
    · unfold kn at hv ⊢
      rw [getD_set hbl]; split
      · rfl
      · exact hv
  · simp only [hc]
    refine ⟨h, fun hka hda => ?_, fun _ hv => hv⟩
    have hea := h.old a ha hka
    cases hkb : kn r.1 b with
    | true => simpa using hkb
    | false =>
      exfalso; apply hc
      unfold visC
      unfold kn at hkb hka
      unfold dp at hda
      simp only [hea, hka, hda, hkb, hbl, decide_true, Bool.not_false, Bool.and_self]
def Done (l : List Arc) (on : List Int) (d : Int) (sts0 r : List Step) (i : Nat) : Prop :=
  ∀ (h : i < l.length) (h2 : i < on.length), (on[i] < l[i].cap → kn sts0 l[i].f.toNat = true → dp sts0 l[i].f.toNat = d → kn r l[i].t.toNat = true) ∧ (0 < on[i] → kn sts0 l[i].t.toNat = true → dp sts0 l[i].t.toNat = d → kn r l[i].f.toNat = true)
theorem eachM_BI {l : List Arc} {on : List Int} {n : Nat} {d : Int} {sts0 : List Step} (hn : NodesOk n l) (hlen : on.length = l.length) (h0 : sts0.length = n) :
    ∀ k, k ≤ l.length → BI l on n d sts0 (eachM (visR d) l on k (sts0, false)).1 ∧ ∀ i, i < k → Done l on d sts0 (eachM (visR d) l on k (sts0, false)).1 i
  | 0, _ => ⟨⟨h0, fun _ _ _ => rfl, fun v _ h1 h2 => by rw [show kn sts0 v = true from h1] at h2; cases h2⟩, fun i hi => absurd hi (by omega)⟩
  | k + 1, hk => by
    obtain ⟨ih1, ih2⟩ := eachM_BI hn hlen h0 k (by omega)
    have hkl : k < l.length := by omega
    have hko : k < on.length := by omega
    rw [eachM_succ _ l on k _ hkl hko]
    generalize eachM (visR d) l on k (sts0, false) = r at ih1 ih2
    obtain ⟨⟨f0, f1⟩, t0, t1⟩ := hn l[k] (List.getElem_mem hkl)
    obtain ⟨a, ha⟩ := Int.eq_ofNat_of_zero_le f0
    obtain ⟨b, hb⟩ := Int.eq_ofNat_of_zero_le t0
    have han : a < n := by omega
    have hbn : b < n := by omega
    -- forwards
    have s1 : BI l on n d sts0 (eachF (visR d) k l[k] on[k] r).1 ∧ (on[k] < l[k].cap → kn sts0 a = true → dp sts0 a = d → kn (eachF (visR d) k l[k] on[k] r).1 b = true) ∧ ∀ v, kn r.1 v = true → kn (eachF (visR d) k l[k] on[k] r).1 v = true := by
      unfold eachF
      by_cases hc : on[k] < l[k].cap
      · rw [if_pos hc, ha, hb]
        have hE : Edge l on ⟨a, k, l[k].cap - on[k], true, true, d + 1⟩ a b := ⟨rfl, k, rfl, hkl, hko, fun _ => ⟨ha, hb, rfl, hc⟩, fun h => by cases h⟩
        obtain ⟨g1, g2, g3⟩ := vis_BI ih1 han hbn (cost := l[k].cost) hE
        exact ⟨g1, fun _ => g2, g3⟩
      · rw [if_neg hc]; exact ⟨ih1, fun h => absurd h hc, fun _ h => h⟩
    generalize eachF (visR d) k l[k] on[k] r = r1 at s1
    obtain ⟨b1, d1, m1⟩ := s1
    have s2 : BI l on n d sts0 (eachB (visR d) k l[k] on[k] r1).1 ∧ (0 < on[k] → kn sts0 b = true → dp sts0 b = d → kn (eachB (visR d) k l[k] on[k] r1).1 a = true) ∧ ∀ v, kn r1.1 v = true → kn (eachB (visR d) k l[k] on[k] r1).1 v = true := by
      unfold eachB
      by_cases hc : 0 < on[k]
      · rw [if_pos hc, ha, hb]
        have hE : Edge l on ⟨b, k, on[k], false, true, d + 1⟩ b a := ⟨rfl, k, rfl, hkl, hko, (fun h => by cases h), fun _ => ⟨hb, ha, rfl, hc⟩⟩
        obtain ⟨g1, g2, g3⟩ := vis_BI b1 hbn han (cost := -l[k].cost) hE
        exact ⟨g1, fun _ => g2, g3⟩
      · rw [if_neg hc]; exact ⟨b1, fun h => absurd h hc, fun _ h => h⟩
    obtain ⟨b2, d2, m2⟩ := s2
    refine ⟨b2, fun i hi h h2 => ?_⟩
    rcases Nat.lt_succ_iff_lt_or_eq.1 hi with hlt | rfl
    · obtain ⟨q1, q2⟩ := ih2 i hlt h h2
      exact ⟨fun u1 u2 u3 => m2 _ (m1 _ (q1 u1 u2 u3)), fun u1 u2 u3 => m2 _ (m1 _ (q2 u1 u2 u3))⟩
    · rw [ha, hb]
      simp only [Int.toNat_natCast]
      exact ⟨fun u1 u2 u3 => m2 _ (d1 u1 u2 u3), d2⟩
/-- what is known at the head of a round -/
structure GI (l : List Arc) (on : List Int) (n s : Nat) (d : Int) (sts : List Step) : Prop where
  len : sts.length = n
  src : kn sts s = true
  bd : ∀ v, v < n → kn sts v = true → 0 ≤ dp sts v ∧ dp sts v ≤ d
  edge : ∀ v, v < n → kn sts v = true → v ≠ s → ∃ p, p < n ∧ kn sts p = true ∧ dp sts p < dp sts v ∧ Edge l on (sts.getD v default) p v
  clo : ∀ i (h : i < l.length) (h2 : i < on.length), (on[i] < l[i].cap → kn sts l[i].f.toNat = true → dp sts l[i].f.toNat < d → kn sts l[i].t.toNat = true) ∧ (0 < on[i] → kn sts l[i].t.toNat = true → dp sts l[i].t.toNat < d → kn sts l[i].f.toNat = true)
theorem GI_step {l : List Arc} {on : List Int} {n s : Nat} {d : Int} {sts : List Step} (hn : NodesOk n l) (hlen : on.length = l.length) (h : GI l on n s d sts) (hs : s < n) (hd : 0 ≤ d) :
    GI l on n s (d + 1) (reachStep l on d sts).1 := by
  obtain ⟨hb, hdone⟩ := eachM_BI (d := d) hn hlen h.len l.length (Nat.le_refl _)
  have he : eachM (visR d) l on l.length (sts, false) = reachStep l on d sts := rfl
  rw [he] at hb hdone
  generalize (reachStep l on d sts).1 = r at hb hdone
  have hmono : ∀ v, v < n → kn sts v = true → kn r v = true ∧ dp r v = dp sts v := fun v hv hk => by
    have := hb.old v hv hk
    exact ⟨by unfold kn at hk ⊢; rw [this]; exact hk, by unfold dp; rw [this]⟩
  refine ⟨hb.len, (hmono s hs h.src).1, fun v hv hk => ?_, fun v hv hk hvs => ?_, fun i hi hi2 => ?_⟩
  · cases h0 : kn sts v with
    | true => have := h.bd v hv h0; rw [(hmono v hv h0).2]; omega
    | false => have := (hb.new v hv hk h0).1; omega
  · cases h0 : kn sts v with
    | true =>
      obtain ⟨p, hp, hkp, hdp, hE⟩ := h.edge v hv h0 hvs
      exact ⟨p, hp, (hmono p hp hkp).1, by rw [(hmono p hp hkp).2, (hmono v hv h0).2]; exact hdp, by rw [hb.old v hv h0]; exact hE⟩
    | false =>
      obtain ⟨h1, p, hp, hkp, hdp, hE⟩ := hb.new v hv hk h0
      exact ⟨p, hp, (hmono p hp hkp).1, by rw [(hmono p hp hkp).2]; omega, hE⟩
  · obtain ⟨⟨f0, f1⟩, t0, t1⟩ := hn l[i] (List.getElem_mem hi)
    have hfn : l[i].f.toNat < n := by omega
    have htn : l[i].t.toNat < n := by omega
    obtain ⟨c1, c2⟩ := h.clo i hi hi2
    obtain ⟨e1, e2⟩ := hdone i hi hi hi2
    have back : ∀ v, v < n → kn r v = true → dp r v < d + 1 → kn sts v = true ∧ dp sts v ≤ d := fun v hv hk hdv => by
      cases h0 : kn sts v with
      | true => exact ⟨rfl, (h.bd v hv h0).2⟩
      | false => have := (hb.new v hv hk h0).1; omega
    refine ⟨fun u1 u2 u3 => ?_, fun u1 u2 u3 => ?_⟩
    · obtain ⟨k1, k2⟩ := back _ hfn u2 u3
      by_cases hdd : dp sts l[i].f.toNat = d
      · exact e1 u1 k1 hdd
      · exact (hmono _ htn (c1 u1 k1 (by omega))).1
    · obtain ⟨k1, k2⟩ := back _ htn u2 u3
      by_cases hdd : dp sts l[i].t.toNat = d
      · exact e2 u1 k1 hdd
      · exact (hmono _ hfn (c2 u1 k1 (by omega))).1
/-- what reach gives -/
structure Reached (l : List Arc) (on : List Int) (n s : Nat) (sts : List Step) : Prop where
  len : sts.length = n
  src : kn sts s = true
  pos : ∀ v, v < n → kn sts v = true → 0 ≤ dp sts v ∧ dp sts v ≤ n
  edge : ∀ v, v < n → kn sts v = true → v ≠ s → ∃ p, p < n ∧ kn sts p = true ∧ dp sts p < dp sts v ∧ Edge l on (sts.getD v default) p v
  clo : ∀ i (h : i < l.length) (h2 : i < on.length), (on[i] < l[i].cap → kn sts l[i].f.toNat = true → kn sts l[i].t.toNat = true) ∧ (0 < on[i] → kn sts l[i].t.toNat = true → kn sts l[i].f.toNat = true)
theorem reachIter_spec {l : List Arc} {on : List Int} {n s : Nat} (hn : NodesOk n l) (hlen : on.length = l.length) (hs : s < n) : ∀ (f : Nat) (d : Int) (sts : List Step), 0 ≤ d → unk sts < f → d + unk sts ≤ n → GI l on n s d sts → Reached l on n s (reachIter l on f d sts)
  | 0, _, _, _, hu, _, _ => absurd hu (by omega)
  | f + 1, d, sts, hd, hu, hB, h => by
    have hstep := GI_step hn hlen h hs hd
    have hinv := reachStep_inv l on d sts
    rw [reachIter]
    cases hr : (reachStep l on d sts).2 with
    | true =>
      simp only [if_true]
      exact reachIter_spec hn hlen hs f (d + 1) _ (by omega) (by have := hinv.2.2 hr; omega) (by have := hinv.2.2 hr; omega) hstep
    | false =>
      have he := hinv.2.1 hr
      simp only [Bool.false_eq_true, if_false]
      rw [he] at hstep ⊢
      refine ⟨h.len, h.src, fun v hv hk => by have := h.bd v hv hk; omega, h.edge, fun i hi hi2 => ?_⟩
      obtain ⟨⟨f0, f1⟩, t0, t1⟩ := hn l[i] (List.getElem_mem hi)
      obtain ⟨c1, c2⟩ := hstep.clo i hi hi2
      exact ⟨fun u1 u2 => c1 u1 u2 (by have := (h.bd _ (show l[i].f.toNat < n by omega) u2).2; omega), fun u1 u2 => c2 u1 u2 (by have := (h.bd _ (show l[i].t.toNat < n by omega) u2).2; omega)⟩
theorem reachFin_spec {l : List Arc} {on : List Int} {n s : Nat} (hn : NodesOk n l) (hlen : on.length = l.length) (hs : s < n) : Reached l on n s (reachFin l on n s) := by
  have hk : ∀ v, v < n → (kn (reachInit n s) v = true ↔ v = s) ∧ (v = s → dp (reachInit n s) v = 0) := fun v hv => by
    unfold kn dp reachInit
    rw [getD_set (by simpa using hs)]
    by_cases h : s = v
    · subst h; simp
    · simp [h, hv, Ne.symm h]
  have hu1 : unk (reachInit n s) ≤ n := by
    have h1 : unk (reachInit n s) ≤ (reachInit n s).length := List.countP_le_length
    simpa [reachInit] using h1
  refine reachIter_spec hn hlen hs (n + 1) 0 _ (by omega) (by omega) (by omega) ⟨by simp [reachInit], ((hk s hs).1).2 rfl, fun v hv hkv => ?_, fun v hv hkv hvs => absurd (((hk v hv).1).1 hkv) hvs, fun i hi hi2 => ?_⟩
  · have := (hk v hv).2 (((hk v hv).1).1 hkv); omega
  · obtain ⟨⟨f0, f1⟩, t0, t1⟩ := hn l[i] (List.getElem_mem hi)
    refine ⟨fun _ u2 u3 => ?_, fun _ u2 u3 => ?_⟩
    · have := (hk _ (show l[i].f.toNat < n by omega)).2 (((hk _ (by omega)).1).1 u2); omega
    · have := (hk _ (show l[i].t.toNat < n by omega)).2 (((hk _ (by omega)).1).1 u2); omega
end Go.Proofs.Ytgjfjbphngamgaa.Flo

/-
  Plain: from what reach finds to a greater flow, or to a proof that there is none.
-/
set_option linter.all false
namespace Go.Proofs.Ytgjfjbphngamgaa.Flo
open Go Go.W

def Path (rk : Nat → Int) (l : List Arc) (on : List Int) (n s : Nat) (sts : List Step) : List Nat → Nat → Prop
  | [], k => k = s
  | x :: xs, k => k = x ∧ k ≠ s ∧ k < n ∧ ∃ p, p < n ∧ rk p < rk k ∧ Edge l on (sts.getD k default) p k ∧ Path rk l on n s sts xs p
/-- each known node has an edge from a known node of lower rank -/
structure Tree (rk : Nat → Int) (l : List Arc) (on : List Int) (n s : Nat) (sts : List Step) : Prop where
  pos : ∀ v, v < n → kn sts v = true → 0 ≤ rk v ∧ rk v ≤ n
  edge : ∀ v, v < n → kn sts v = true → v ≠ s → ∃ p, p < n ∧ kn sts p = true ∧ rk p < rk v ∧ Edge l on (sts.getD v default) p v
theorem Reached.tree {l : List Arc} {on : List Int} {n s : Nat} {sts : List Step} (h : Reached l on n s sts) : Tree (dp sts) l on n s sts := ⟨h.pos, h.edge⟩
theorem path_of {rk : Nat → Int} {l : List Arc} {on : List Int} {n s : Nat} {sts : List Step} (h : Tree rk l on n s sts) : ∀ (m : Nat) (v : Nat), v < n → kn sts v = true → rk v ≤ m → ∃ ks, ks.length ≤ m ∧ Path rk l on n s sts ks v
  | 0, v, hv, hk, hm => by
    by_cases hvs : v = s
    · exact ⟨[], by simp, hvs⟩
    · obtain ⟨p, hp, hkp, hdp, _⟩ := h.edge v hv hk hvs
      have := (h.pos p hp hkp).1; omega
  | m + 1, v, hv, hk, hm => by
    by_cases hvs : v = s
    · exact ⟨[], by simp, hvs⟩
    · obtain ⟨p, hp, hkp, hdp, hE⟩ := h.edge v hv hk hvs
      obtain ⟨ks, hl, hP⟩ := path_of h m p hp hkp (by omega)
      exact ⟨v :: ks, by simp; omega, rfl, hvs, hv, p, hp, hdp, hE, hP⟩
theorem Path.chain {rk : Nat → Int} {l : List Arc} {on : List Int} {n s : Nat} {sts : List Step} (hlen : sts.length = n) (hol : on.length = l.length) : ∀ {ks : List Nat} {v : Nat}, Path rk l on n s sts ks v → Chain sts s on.length ks v
  | [], _, h => h
  | x :: xs, v, ⟨h1, h2, h3, p, hp, hdp, hE, hP⟩ => by
    obtain ⟨e1, ai, e2, e3, e4, _⟩ := hE
    exact ⟨h1, h2, by omega, p, ai, e1, e2, by omega, Path.chain hlen hol hP⟩
/-- all nodes of a path lie at most as deep as its first -/
theorem Path.deep {rk : Nat → Int} {l : List Arc} {on : List Int} {n s : Nat} {sts : List Step} : ∀ {ks : List Nat} {v : Nat}, Path rk l on n s sts ks v → ∀ x ∈ ks, rk x ≤ rk v
  | [], _, _, x, hx => by cases hx
  | y :: xs, v, ⟨h1, _, _, p, _, hdp, _, hP⟩, x, hx => by
    rcases List.mem_cons.1 hx with rfl | hx
    · rw [h1]; exact Int.le_refl _
    · have := Path.deep hP x hx; omega
theorem Path.edge {rk : Nat → Int} {l : List Arc} {on : List Int} {n s : Nat} {sts : List Step} : ∀ {ks : List Nat} {v : Nat}, Path rk l on n s sts ks v → ∀ x ∈ ks, ∃ p, rk p < rk x ∧ Edge l on (sts.getD x default) p x
  | [], _, _, x, hx => by cases hx
  | y :: xs, v, ⟨h1, _, _, p, _, hdp, hE, hP⟩, x, hx => by
    rcases List.mem_cons.1 hx with rfl | hx
    · subst h1; exact ⟨p, hdp, hE⟩
    · exact Path.edge hP x hx
/-- two nodes of different depth are not reached over one arc -/
theorem edge_apart {rk : Nat → Int} {l : List Arc} {on : List Int} {sts : List Step} {x y px py : Nat} (hx : Edge l on (sts.getD x default) px x) (hy : Edge l on (sts.getD y default) py y) (dx : rk px < rk x) (dy : rk py < rk y)
    (hlt : rk x < rk y) : (sts.getD x default).arc ≠ (sts.getD y default).arc := by
  obtain ⟨_, ax, ex, hx1, hx2, fx, bx⟩ := hx
  obtain ⟨_, ay, ey, hy1, hy2, fy, by_⟩ := hy
  intro he
  rw [ex, ey] at he
  have he : ax = ay := by omega
  subst he
  cases h1 : (sts.getD x default).fwd <;> cases h2 : (sts.getD y default).fwd
  · have g1 := bx h1; have g2 := by_ h2
    have : x = y := by omega
    subst this; omega
  · have g1 := bx h1; have g2 := fy h2
    have e1 : x = py := by omega
    have e2 : px = y := by omega
    subst e1 e2; omega
  · have g1 := fx h1; have g2 := by_ h2
    have e1 : x = py := by omega
    have e2 : px = y := by omega
    subst e1 e2; omega
  · have g1 := fx h1; have g2 := fy h2
    have : x = y := by omega
    subst this; omega
theorem minI_le (a b : Int) : minI a b ≤ a ∧ minI a b ≤ b ∧ (0 < a → 0 < b → 0 < minI a b) := by unfold minI; split <;> omega
theorem pushMin_spec (sts : List Step) : ∀ (ks : List Nat) (m : Int), 0 < m → (∀ x ∈ ks, 0 < (sts.getD x default).room) → 0 < pushMin sts ks m ∧ pushMin sts ks m ≤ m ∧ ∀ x ∈ ks, pushMin sts ks m ≤ (sts.getD x default).room
  | [], m, hm, _ => ⟨hm, Int.le_refl _, fun x hx => by cases hx⟩
  | k :: ks, m, hm, h => by
    have h1 := minI_le m (sts.getD k default).room
    obtain ⟨g1, g2, g3⟩ := pushMin_spec sts ks (minI m (sts.getD k default).room) (h1.2.2 hm (h k (List.mem_cons_self ..))) fun x hx => h x (List.mem_cons_of_mem _ hx)
    have e : pushMin sts (k :: ks) m = pushMin sts ks (minI m (sts.getD k default).room) := rfl
    rw [e]
    refine ⟨g1, by omega, fun x hx => ?_⟩
    rcases List.mem_cons.1 hx with rfl | hx
    · omega
    · exact g3 x hx
theorem Edge.room_pos {l : List Arc} {on : List Int} {x : Step} {p v : Nat} (h : Edge l on x p v) : 0 < x.room := by
  obtain ⟨_, ai, _, h1, h2, hf, hb⟩ := h
  cases hx : x.fwd with
  | true => have := hf hx; omega
  | false => have := hb hx; omega
theorem push_flow {rk : Nat → Int} {l : List Arc} {on : List Int} {n s : Nat} {sts : List Step} {M : Int} (hM : 0 ≤ M) (pot : Int → Int) : ∀ (ks : List Nat) (v : Nat) (on0 : List Int), Path rk l on n s sts ks v → (∀ x ∈ ks, M ≤ (sts.getD x default).room) → VFlow l on0 →
    (∀ x ∈ ks, on0.getD (sts.getD x default).arc.toNat 0 = on.getD (sts.getD x default).arc.toNat 0) →
    VFlow l (pushOn sts ks M on0) ∧ netOut pot l (pushOn sts ks M on0) = netOut pot l on0 + M * (pot s - pot v)
  | [], v, on0, hP, _, hv, _ => by
    have : v = s := hP
    subst this
    exact ⟨hv, by simp [pushOn]⟩
  | k :: ks, v, on0, ⟨h1, h2, h3, p, hp, hdp, hE, hP⟩, hr, hv, hag => by
    subst h1
    have hE0 := hE
    obtain ⟨e1, ai, e2, e3, e4, hf, hb⟩ := hE
    have hlen := hv.len
    have hai : ai < on0.length := by omega
    have hrv := hr v (List.mem_cons_self ..)
    have hagv := hag v (List.mem_cons_self ..)
    have hbd := hv.bd ai e3 hai
    rw [e2] at hagv
    simp only [Int.toNat_natCast, List.getD_eq_getElem?_getD, List.getElem?_eq_getElem hai, List.getElem?_eq_getElem e4, Option.getD_some] at hagv
    -- the new list
    obtain ⟨y, hy, hy0, hy1, hyn⟩ : ∃ y, push1 sts M on0 v = on0.set ai y ∧ 0 ≤ y ∧ y ≤ l[ai].cap ∧ (y - on0[ai]) * (pot l[ai].f - pot l[ai].t) = M * (pot p - pot v) := by
      have hg : on0.getD ai 0 = on0[ai] := by simp [hai]
      cases hx : (sts.getD v default).fwd with
      | true =>
        obtain ⟨g1, g2, g3, g4⟩ := hf hx
        refine ⟨on0[ai] + M, by simp only [push1, e2, Int.toNat_natCast, hx, if_true, hg], by omega, by omega, ?_⟩
        rw [g1, g2, show on0[ai] + M - on0[ai] = M by omega]
      | false =>
        obtain ⟨g1, g2, g3, g4⟩ := hb hx
        refine ⟨on0[ai] - M, by simp only [push1, e2, Int.toNat_natCast, hx, hg]; rfl, by omega, by omega, ?_⟩
        rw [g1, g2, show on0[ai] - M - on0[ai] = -M by omega, Int.neg_mul, ← Int.mul_neg, Int.neg_sub]
    have hv1 : VFlow l (push1 sts M on0 v) := by
      rw [hy]
      refine ⟨by simpa using hlen, fun i h h' => ?_⟩
      rw [List.getElem_set]
      split
      · rename_i he; subst he; exact ⟨hy0, hy1⟩
      · exact hv.bd i h (by simpa using h')
    have hag1 : ∀ x ∈ ks, (push1 sts M on0 v).getD (sts.getD x default).arc.toNat 0 = on.getD (sts.getD x default).arc.toNat 0 := by
      intro x hx
      rw [← hag x (List.mem_cons_of_mem _ hx), hy]
      obtain ⟨px, dpx, hEx⟩ := Path.edge hP x hx
      have hdx := Path.deep hP x hx
      have hne := edge_apart hEx hE0 dpx hdp (by omega)
      obtain ⟨_, ax, ex2, _⟩ := hEx
      rw [e2, ex2] at hne
      rw [ex2]
      have : ai ≠ ax := by omega
      simp [List.getElem?_set, this]
    obtain ⟨i1, i2⟩ := push_flow hM pot ks p (push1 sts M on0 v) hP (fun x hx => hr x (List.mem_cons_of_mem _ hx)) hv1 hag1
    have e : pushOn sts (v :: ks) M on0 = pushOn sts ks M (push1 sts M on0 v) := rfl
    rw [e]
    refine ⟨i1, ?_⟩
    rw [i2, hy, netOut_set pot l on0 ai y e3 hai, hyn, Int.mul_sub, Int.mul_sub, Int.mul_sub]
    omega
/-- a push towards t along a path makes a flow of a greater amount -/
theorem push_isFlow {rk : Nat → Int} {l : List Arc} {on : List Int} {n s t : Nat} {sts : List Step} {M amt : Int} (hM : 0 ≤ M) (hst : s ≠ t) {ks : List Nat} (hP : Path rk l on n s sts ks t) (hr : ∀ x ∈ ks, M ≤ (sts.getD x default).room) (hf : IsFlow n l s t on amt) :
    IsFlow n l s t (pushOn sts ks M on) (amt + M) := by
  have hv := (push_flow hM (fun _ => 0) ks t on hP hr hf.v fun _ _ => rfl).1
  have hpot := fun pot => (push_flow hM pot ks t on hP hr hf.v fun _ _ => rfl).2
  refine ⟨hv, fun u h0 h1 h2 h3 => ?_, ?_⟩
  · rw [hpot, hf.cons u h0 h1 h2 h3]
    have e1 : ind u (s : Int) = 0 := if_neg (fun h => h2 h.symm)
    have e2 : ind u (t : Int) = 0 := if_neg (fun h => h3 h.symm)
    rw [e1, e2]; simp
  · rw [hpot, hf.amt]
    have e1 : ind (s : Int) (s : Int) = 1 := if_pos rfl
    have e2 : ind (s : Int) (t : Int) = 0 := if_neg (by omega)
    rw [e1, e2]; omega
/-- where t is not reached, the flow is greatest -/
theorem reached_isMax {l : List Arc} {on : List Int} {n s t : Nat} {sts : List Step} {amt : Int} (hn : NodesOk n l) (hs : s < n) (h : Reached l on n s sts) (hf : IsFlow n l s t on amt) (ht : kn sts t = false) : IsMax n l s t amt := by
  refine ⟨⟨on, hf⟩, fun u => kn sts u.toNat, by simpa using h.src, by simpa using ht, ?_⟩
  rw [← netOut_eq_cut _ l on hf.v.len fun i hi hi2 => ?_]
  · exact hf.set hn ⟨by omega, by omega⟩ (by simpa using h.src) (by simpa using ht)
  · obtain ⟨c1, c2⟩ := h.clo i hi hi2
    have hb := hf.v.bd i hi hi2
    refine ⟨fun u1 u2 => ?_, fun u1 u2 => ?_⟩
    · rcases Int.lt_or_eq_of_le hb.2 with hlt | he
      · rw [c1 hlt u1] at u2; cases u2
      · exact he
    · rcases Int.lt_or_eq_of_le hb.1 with hlt | he
      · rw [c2 hlt u2] at u1; cases u1
      · exact he.symm
theorem zero_isFlow {n : Nat} {l : List Arc} {s t : Int} (hc : ∀ a ∈ l, 0 ≤ a.cap) : IsFlow n l s t (List.replicate l.length 0) 0 := by
  have hz : ∀ (p : Int → Int) (l : List Arc), netOut p l (List.replicate l.length 0) = 0 := by
    intro p l
    induction l with
    | nil => rfl
    | cons a l ih => simp [List.replicate_succ, netOut, ih]
  exact ⟨⟨by simp, fun i h h2 => by simp; exact hc _ (List.getElem_mem h)⟩, fun u _ _ _ _ => hz _ l, hz _ l⟩
end Go.Proofs.Ytgjfjbphngamgaa.Flo
