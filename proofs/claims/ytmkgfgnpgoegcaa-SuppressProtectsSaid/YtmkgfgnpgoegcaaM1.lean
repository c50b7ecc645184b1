/-
  Plain: flows on a list of arcs: what flows out of a set of nodes; cuts; a push along a chain.
-/
import Derived.Test.YtmkgfgnpgoegcaaT7
set_option linter.all false
namespace Go.Proofs.Ytmkgfgnpgoegcaa
open Go Go.W

/-- what flows out by a potential: the sum over the arcs of on * (p from - p to) -/
def netOut (p : Int → Int) : List Arc → List Int → Int
  | a :: l, x :: on => x * (p a.f - p a.t) + netOut p l on
  | _, _ => 0
def ind (v : Int) : Int → Int := fun u => if u = v then 1 else 0
def NodesOk (n : Nat) (l : List Arc) : Prop := ∀ a ∈ l, (0 ≤ a.f ∧ a.f < n) ∧ (0 ≤ a.t ∧ a.t < n)
structure VFlow (l : List Arc) (on : List Int) : Prop where
  len : on.length = l.length
  bd : ∀ i (h : i < l.length) (h2 : i < on.length), 0 ≤ on[i] ∧ on[i] ≤ l[i].cap
/-- a flow of an amount -/
structure IsFlow (n : Nat) (l : List Arc) (s t : Int) (on : List Int) (amt : Int) : Prop where
  v : VFlow l on
  cons : ∀ u : Int, 0 ≤ u → u < n → u ≠ s → u ≠ t → netOut (ind u) l on = 0
  amt : netOut (ind s) l on = amt
def cutCap (S : Int → Bool) : List Arc → Int
  | [] => 0
  | a :: l => (if (S a.f && !S a.t) = true then a.cap else 0) + cutCap S l
def sumTo (f : Int → Int) : Nat → Int
  | 0 => 0
  | n + 1 => sumTo f n + f n
theorem sumTo_zero (n : Nat) : sumTo (fun _ => 0) n = 0 := by
  induction n with
  | zero => rfl
  | succ n ih => simp [sumTo, ih]
theorem sumTo_add (f g : Int → Int) (n : Nat) : sumTo (fun u => f u + g u) n = sumTo f n + sumTo g n := by
  induction n with
  | zero => rfl
  | succ n ih => simp only [sumTo, ih]; omega
theorem sumTo_congr {f g : Int → Int} {n : Nat} (h : ∀ u : Int, 0 ≤ u → u < n → f u = g u) : sumTo f n = sumTo g n := by
  induction n with
  | zero => rfl
  | succ n ih => simp only [sumTo]; rw [ih fun u h1 h2 => h u h1 (by omega), h n (by omega) (by omega)]
theorem sumTo_pick (q : Int → Int) (v : Int) (c : Int) : ∀ n : Nat, 0 ≤ v → v < n → sumTo (fun u => q u * (c * ind u v)) n = q v * c
  | 0, h0, h => by omega
  | n + 1, h0, h => by
    simp only [sumTo]
    by_cases hv : v = n
    · subst hv
      have : sumTo (fun u => q u * (c * ind u (n : Int))) n = sumTo (fun _ => 0) n := sumTo_congr fun u h1 h2 => by
        rw [show ind u (n : Int) = 0 from if_neg (by omega)]; simp
      rw [this, sumTo_zero]; simp [ind]
    · rw [sumTo_pick q v c n h0 (by omega)]; simp [ind, hv]
theorem sumTo_mul_add (q f g : Int → Int) (n : Nat) : sumTo (fun u => q u * (f u + g u)) n = sumTo (fun u => q u * f u) n + sumTo (fun u => q u * g u) n := by
  rw [← sumTo_add]; exact sumTo_congr fun u _ _ => Int.mul_add _ _ _
/-- a potential's outflow is the sum of the nodes' -/
theorem netOut_sum (n : Nat) (p : Int → Int) : ∀ (l : List Arc) (on : List Int), NodesOk n l → netOut p l on = sumTo (fun u => p u * netOut (ind u) l on) n
  | [], on, _ => by simp [netOut, sumTo_zero]
  | a :: l, [], _ => by simp [netOut, sumTo_zero]
  | a :: l, x :: on, h => by
    have ha := h a (List.mem_cons_self ..)
    have ih := netOut_sum n p l on fun b hb => h b (List.mem_cons_of_mem _ hb)
    have e1 : sumTo (fun u => p u * netOut (ind u) (a :: l) (x :: on)) n = sumTo (fun u => p u * (x * ind u a.f)) n + (sumTo (fun u => p u * (-x * ind u a.t)) n + sumTo (fun u => p u * netOut (ind u) l on) n) := by
      rw [← sumTo_add, ← sumTo_add]
      refine sumTo_congr fun u _ _ => ?_
      simp only [netOut, Int.mul_add, Int.mul_sub, Int.neg_mul, Int.mul_neg]
      omega
    rw [e1, sumTo_pick p a.f x n ha.1.1 ha.1.2, sumTo_pick p a.t (-x) n ha.2.1 ha.2.2, ← ih]
    simp only [netOut, Int.mul_sub, Int.mul_neg, Int.mul_comm]
    omega
theorem sumTo_single (f : Int → Int) (v : Int) : ∀ n : Nat, 0 ≤ v → v < n → (∀ u : Int, 0 ≤ u → u < n → u ≠ v → f u = 0) → sumTo f n = f v
  | 0, h0, h, _ => by omega
  | n + 1, h0, h, hz => by
    simp only [sumTo]
    by_cases hv : v = n
    · subst hv
      rw [show sumTo f n = sumTo (fun _ => 0) n from sumTo_congr fun u h1 h2 => hz u h1 (by omega) (by omega), sumTo_zero]; omega
    · rw [sumTo_single f v n h0 (by omega) fun u h1 h2 h3 => hz u h1 (by omega) h3, hz n (by omega) (by omega) (fun h => hv h.symm)]; omega
def indB (S : Int → Bool) : Int → Int := fun u => if S u = true then 1 else 0
/-- the amount is what flows out of any set with s and without t -/
theorem IsFlow.set {n : Nat} {l : List Arc} {s t : Int} {on : List Int} {amt : Int} (hf : IsFlow n l s t on amt) (hn : NodesOk n l) (hs : 0 ≤ s ∧ s < n) {S : Int → Bool} (h1 : S s = true) (h2 : S t = false) : netOut (indB S) l on = amt := by
  rw [netOut_sum n _ l on hn, sumTo_single _ s n hs.1 hs.2, hf.amt]
  · simp [indB, h1]
  · intro u hu0 hu1 hus
    by_cases hut : u = t
    · subst hut; simp [indB, h2]
    · rw [hf.cons u hu0 hu1 hus hut]; simp
theorem netOut_le_cut (S : Int → Bool) : ∀ (l : List Arc) (on : List Int), VFlow l on → netOut (indB S) l on ≤ cutCap S l
  | [], [], _ => by simp [netOut, cutCap]
  | a :: l, x :: on, h => by
    have h0 := h.bd 0 (by simp) (by simp)
    simp only [List.getElem_cons_zero] at h0
    have ih := netOut_le_cut S l on ⟨by simpa using h.len, fun i hi hi2 => h.bd (i + 1) (Nat.succ_lt_succ hi) (Nat.succ_lt_succ hi2)⟩
    simp only [netOut, cutCap, indB]
    cases S a.f <;> cases S a.t <;> simp <;> omega
  | [], _ :: _, h => by have := h.len; simp at this
  | _ :: _, [], h => by have := h.len; simp at this
/-- no flow is greater than a cut -/
theorem weak_dual {n : Nat} {l : List Arc} {s t : Int} {on : List Int} {amt : Int} (hf : IsFlow n l s t on amt) (hn : NodesOk n l) (hs : 0 ≤ s ∧ s < n) {S : Int → Bool} (h1 : S s = true) (h2 : S t = false) : amt ≤ cutCap S l := by
  rw [← hf.set hn hs h1 h2]; exact netOut_le_cut S l on hf.v
/-- where the arcs out are full and the arcs in empty, the flow out is the cut -/
theorem netOut_eq_cut (S : Int → Bool) : ∀ (l : List Arc) (on : List Int), on.length = l.length → (∀ i (h : i < l.length) (h2 : i < on.length), (S l[i].f = true → S l[i].t = false → on[i] = l[i].cap) ∧ (S l[i].f = false → S l[i].t = true → on[i] = 0)) → netOut (indB S) l on = cutCap S l
  | [], [], _, _ => by simp [netOut, cutCap]
  | a :: l, x :: on, hl, h => by
    have h0 := h 0 (by simp) (by simp)
    simp only [List.getElem_cons_zero] at h0
    have ih := netOut_eq_cut S l on (by simpa using hl) fun i hi hi2 => h (i + 1) (Nat.succ_lt_succ hi) (Nat.succ_lt_succ hi2)
    simp only [netOut, cutCap, indB]
    cases hf : S a.f <;> cases ht : S a.t <;> simp [hf, ht] at h0 ⊢ <;> omega
  | [], _ :: _, h, _ => by simp at h
  | _ :: _, [], h, _ => by simp at h
/-- one arc changed -/
theorem netOut_set (p : Int → Int) : ∀ (l : List Arc) (on : List Int) (i : Nat) (x : Int) (h : i < l.length) (h2 : i < on.length), netOut p l (on.set i x) = netOut p l on + (x - on[i]) * (p l[i].f - p l[i].t)
  | [], _, _, _, h, _ => by simp at h
  | _ :: _, [], _, _, _, h => by simp at h
  | a :: l, y :: on, 0, x, _, _ => by simp only [List.set_cons_zero, netOut, List.getElem_cons_zero, Int.sub_mul]; omega
  | a :: l, y :: on, i + 1, x, h, h2 => by
    simp only [List.set_cons_succ, netOut, List.getElem_cons_succ]
    rw [netOut_set p l on i x (by simpa using h) (by simpa using h2)]; omega
theorem cutCap_nonneg (S : Int → Bool) : ∀ l : List Arc, (∀ a ∈ l, 0 ≤ a.cap) → 0 ≤ cutCap S l
  | [], _ => by simp [cutCap]
  | a :: l, h => by
    have := cutCap_nonneg S l fun b hb => h b (List.mem_cons_of_mem _ hb)
    have := h a (List.mem_cons_self ..)
    simp only [cutCap]; split <;> omega
theorem cutCap_le (S : Int → Bool) : ∀ l : List Arc, (∀ a ∈ l, 0 ≤ a.cap ∧ a.cap ≤ 65536) → cutCap S l ≤ 65536 * l.length
  | [], _ => by simp [cutCap]
  | a :: l, h => by
    have := cutCap_le S l fun b hb => h b (List.mem_cons_of_mem _ hb)
    have := h a (List.mem_cons_self ..)
    simp only [cutCap, List.length_cons]; split <;> omega
/-- THE GREATEST AMOUNT: a flow of the amount, and a cut of the capacity -/
def IsMax (n : Nat) (l : List Arc) (s t amt : Int) : Prop := (∃ on, IsFlow n l s t on amt) ∧ ∃ S : Int → Bool, S s = true ∧ S t = false ∧ cutCap S l = amt
theorem IsMax.unique {n : Nat} {l : List Arc} {s t a b : Int} (hn : NodesOk n l) (hs : 0 ≤ s ∧ s < n) (ha : IsMax n l s t a) (hb : IsMax n l s t b) : a = b := by
  obtain ⟨⟨on, h1⟩, S, h2, h3, h4⟩ := ha
  obtain ⟨⟨on', g1⟩, S', g2, g3, g4⟩ := hb
  have := weak_dual h1 hn hs g2 g3
  have := weak_dual g1 hn hs h2 h3
  omega
end Go.Proofs.Ytmkgfgnpgoegcaa
