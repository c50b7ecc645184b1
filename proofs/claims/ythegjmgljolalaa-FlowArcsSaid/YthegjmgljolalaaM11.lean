/-
  Plain: the chapter's example.
-/
import Derived.Test.YthegjmgljolalaaT17
import Derived.Test.YthegjmgljolalaaT22
set_option linter.all false
namespace Go.Proofs.Ythegjmgljolalaa
open Go Go.W

def exL : List Arc := [⟨0, 1, 3, 1⟩, ⟨0, 2, 2, 2⟩, ⟨1, 2, 1, 0⟩, ⟨1, 3, 1, 5⟩, ⟨2, 3, 4, 1⟩]
theorem exEnds : endsErr 4 exL 0 3 = 0 := by decide
theorem exEnds2 : endsErr 4 exL 3 0 = 0 := by decide
theorem five {P : Nat → Prop} (h0 : P 0) (h1 : P 1) (h2 : P 2) (h3 : P 3) (h4 : P 4) : ∀ i, i < 5 → P i := fun i h => by
  match i, h with
  | 0, _ => exact h0
  | 1, _ => exact h1
  | 2, _ => exact h2
  | 3, _ => exact h3
  | 4, _ => exact h4
theorem exFlow {a b c d e amt : Int} (ha : 0 ≤ a ∧ a ≤ 3) (hb : 0 ≤ b ∧ b ≤ 2) (hc : 0 ≤ c ∧ c ≤ 1) (hd : 0 ≤ d ∧ d ≤ 1) (he : 0 ≤ e ∧ e ≤ 4) (h1 : a = c + d) (h2 : b + c = e) (hm : a + b = amt) : IsFlow 4 exL 0 3 [a, b, c, d, e] amt := by
  refine ⟨⟨rfl, fun i h h2 => ?_⟩, fun u h0 h4 hu0 hu3 => ?_, ?_⟩
  · exact five (P := fun i => ∀ (h : i < exL.length) (h2 : i < [a, b, c, d, e].length), 0 ≤ [a, b, c, d, e][i] ∧ [a, b, c, d, e][i] ≤ exL[i].cap) (fun _ _ => ha) (fun _ _ => hb) (fun _ _ => hc) (fun _ _ => hd) (fun _ _ => he) i h h h2
  · have : u = 1 ∨ u = 2 := by omega
    rcases this with rfl | rfl
    · simp [exL, netOut, ind]; omega
    · simp [exL, netOut, ind]; omega
  · simp [exL, netOut, ind]; omega
theorem exNodes : NodesOk 4 exL := fun a ha => by
  simp only [exL, List.mem_cons, List.not_mem_nil, or_false] at ha
  rcases ha with rfl | rfl | rfl | rfl | rfl <;> decide
def exS : Int → Bool := fun u => u == 0 || u == 1
theorem exMax : IsMax 4 exL 0 3 4 := ⟨⟨_, exFlow (a := 2) (b := 2) (c := 1) (d := 1) (e := 3) (by decide) (by decide) (by decide) (by decide) (by decide) rfl rfl rfl⟩, exS, rfl, rfl, by decide⟩
theorem exMax2 : IsMax 4 exL 3 0 0 := by
  refine ⟨⟨List.replicate 5 0, zero_isFlow fun a ha => ?_⟩, fun u => u == 3, rfl, rfl, by decide⟩
  simp only [exL, List.mem_cons, List.not_mem_nil, or_false] at ha
  rcases ha with rfl | rfl | rfl | rfl | rfl <;> decide
theorem exMost {r : Int} (h : MostRet 4 0 3 exL r 0) : r = 4 := by
  obtain ⟨m, hm, hx⟩ := h.2.2 rfl
  obtain rfl : m = 4 := by omega
  exact IsMax.unique exNodes (by decide) hx exMax
theorem exMost2 {r : Int} (h : MostRet 4 3 0 exL r 0) : r = 0 := by
  obtain ⟨m, hm, hx⟩ := h.2.2 rfl
  obtain rfl : m = 4 := by omega
  exact IsMax.unique exNodes (by decide) hx exMax2
def exR : Nat → Bool := fun v => v == 0 || v == 1
theorem exCutOk : CutOk 4 0 3 exL [true, true, false, false] := by
  refine ⟨rfl, [2, 2, 1, 1, 3], 4, exR, exFlow (by decide) (by decide) (by decide) (by decide) (by decide) rfl rfl rfl, exMax, ⟨rfl, ?_, fun S h0 hc v hv hR => ?_⟩, rfl, fun v hv => ?_⟩
  · exact fun i h h2 => five (P := fun i => ∀ (h : i < exL.length) (h2 : i < [(2 : Int), 2, 1, 1, 3].length), ([(2 : Int), 2, 1, 1, 3][i] < exL[i].cap → exR exL[i].f.toNat = true → exR exL[i].t.toNat = true) ∧ (0 < [(2 : Int), 2, 1, 1, 3][i] → exR exL[i].t.toNat = true → exR exL[i].f.toNat = true)) (by decide) (by decide) (by decide) (by decide) (by decide) i h h h2
  · have h1 := (hc 0 (by decide) (by decide)).1 (by decide) h0
    simp only [exR, Bool.or_eq_true, beq_iff_eq] at hR
    rcases hR with rfl | rfl
    · exact h0
    · exact h1
  · match v, hv with
    | 0, _ => rfl
    | 1, _ => rfl
    | 2, _ => rfl
    | 3, _ => rfl
theorem exCut {bs : List Bool} (h : ∃ m s d : Nat, EndsOk 4 0 3 exL m s d ∧ CutOk m s d exL bs) : bs = [true, true, false, false] := by
  obtain ⟨m, s, d, hE, hc⟩ := h
  obtain rfl : m = 4 := by have := hE.hn; omega
  obtain rfl : s = 0 := by have := hE.hf; omega
  obtain rfl : d = 3 := by have := hE.ht; omega
  exact CutOk.unique exNodes (by decide) hc exCutOk
theorem exOpt1 : OptPot (potF [0, 1, 1, 2]) exL [1, 0, 1, 0, 1] := fun i h h2 =>
  five (P := fun i => ∀ (h : i < exL.length) (h2 : i < [(1 : Int), 0, 1, 0, 1].length), ([(1 : Int), 0, 1, 0, 1][i] < exL[i].cap → 0 ≤ rc (potF [0, 1, 1, 2]) exL[i]) ∧ (0 < [(1 : Int), 0, 1, 0, 1][i] → rc (potF [0, 1, 1, 2]) exL[i] ≤ 0)) (by decide) (by decide) (by decide) (by decide) (by decide) i h h h2
theorem exOpt4 : OptPot (potF [0, 1, 5, 6]) exL [2, 2, 1, 1, 3] := fun i h h2 =>
  five (P := fun i => ∀ (h : i < exL.length) (h2 : i < [(2 : Int), 2, 1, 1, 3].length), ([(2 : Int), 2, 1, 1, 3][i] < exL[i].cap → 0 ≤ rc (potF [0, 1, 5, 6]) exL[i]) ∧ (0 < [(2 : Int), 2, 1, 1, 3][i] → rc (potF [0, 1, 5, 6]) exL[i] ≤ 0)) (by decide) (by decide) (by decide) (by decide) (by decide) i h h h2
theorem exLeast1 : IsLeast 4 exL 0 3 1 2 := least_of (x := [1, 0, 1, 0, 1]) (exFlow (by decide) (by decide) (by decide) (by decide) (by decide) rfl rfl rfl) exOpt1 exNodes (by decide) (by decide) (by decide)
theorem exLeast4 : IsLeast 4 exL 0 3 4 14 := least_of (x := [2, 2, 1, 1, 3]) (exFlow (by decide) (by decide) (by decide) (by decide) (by decide) rfl rfl rfl) exOpt4 exNodes (by decide) (by decide) (by decide)
theorem CheapOk.valid {n f t amt : Int} {l : List Arc} {m s d : Nat} {on pots : List Int} (hE : EndsOk n f t l m s d) (h0 : endsErr n l f t = 0) (h : CheapOk m s d l amt on pots) (ha : 0 ≤ amt) : ValidP n f t l amt (costOf l on) on := by
  refine ⟨h0, ha, ?_, rfl⟩
  have e1 := hE.hn; have e2 := hE.hf; have e3 := hE.ht
  subst e1 e2 e3
  exact h.flow
theorem CheapOk.proved {n f t amt : Int} {l : List Arc} {m s d : Nat} {on pots : List Int} (hE : EndsOk n f t l m s d) (h0 : endsErr n l f t = 0) (h : CheapOk m s d l amt on pots) (ha : 0 ≤ amt) : ProvedP n f t l amt (costOf l on) on pots := by
  refine ⟨h.valid hE h0 ha, by rw [h.plen, hE.hn], fun i hi => ?_, h.opt⟩
  have h1 := h.bd i (by rw [← h.plen]; exact hi)
  rw [List.getD_eq_getElem?_getD, List.getElem?_eq_getElem hi] at h1
  simp only [Option.getD_some] at h1
  have h2 := hE.net.n2
  have h3 : 65536 * (m : Int) * m ≤ 65536 * 64 * 64 := Int.mul_le_mul (by omega) (by omega) (by omega) (by omega)
  omega
theorem CheapOk.least {n f t amt : Int} {l : List Arc} {m s d : Nat} {on pots : List Int} (hE : EndsOk n f t l m s d) (h : CheapOk m s d l amt on pots) : IsLeast m l s d amt (costOf l on) :=
  least_of h.flow h.opt hE.net.nodes ⟨by omega, by have := hE.s1; omega⟩ ⟨by omega, by have := hE.d1; omega⟩ (by have := hE.ne; omega)
/-- what Cheapest returns, in one form -/
structure CheapRet (n f t amt : Int) (l : List Arc) (most a c er : Int) (on pots : List Int) : Prop where
  mst : MostRet n f t l most (endsErr n l f t)
  err : er = cheapErr n f t amt l most
  bad : er ≠ 0 → a = 0 ∧ c = 0 ∧ on = [] ∧ pots = []
  good : er = 0 → ∃ m s d : Nat, EndsOk n f t l m s d ∧ endsErr n l f t = 0 ∧ CheapOk m s d l amt on pots ∧ a = amt ∧ c = costOf l on
theorem cheapErr_ends {n f t amt most : Int} {l : List Arc} (h : cheapErr n f t amt l most = 0) : endsErr n l f t = 0 ∧ 0 ≤ amt ∧ amt ≤ 65536 ∧ amt ≤ most := by
  unfold cheapErr at h
  split at h
  · rename_i h1; exact absurd h h1
  · rename_i h1
    split at h
    · cases h
    · rename_i h2
      split at h
      · cases h
      · simp at h2; exact ⟨by simpa using h1, by omega, by omega, by omega⟩
theorem exCheap {amt a c er most want : Int} {on pots : List Int} (h : CheapRet 4 0 3 amt exL most a c er on pots) (h0 : 0 ≤ amt ∧ amt ≤ 4) (hl : IsLeast 4 exL 0 3 amt want) : er = 0 ∧ a = amt ∧ c = want ∧ (ValidP 4 0 3 exL amt want on) ∧ ProvedP 4 0 3 exL amt want on pots := by
  have hm : most = 4 := exMost (by have := h.mst; rw [exEnds] at this; exact this)
  have he : er = 0 := by
    rw [h.err, cheapErr, if_neg (by rw [exEnds]; decide), if_neg (by simp; omega), if_neg (by omega)]
  obtain ⟨m, s, d, hE, he0, hc, h1, h2⟩ := h.good he
  have hcl := hc.least hE
  have hv := hc.valid hE he0 h0.1
  have hp := hc.proved hE he0 h0.1
  obtain rfl : m = 4 := by have := hE.hn; omega
  obtain rfl : s = 0 := by have := hE.hf; omega
  obtain rfl : d = 3 := by have := hE.ht; omega
  have e := hcl.unique hl
  rw [e] at hv hp h2
  exact ⟨he, h1, h2, hv, hp⟩
theorem exCheap5 {a c er most : Int} {on pots : List Int} (h : CheapRet 4 0 3 5 exL most a c er on pots) : er = 15 := by
  have hm : most = 4 := exMost (by have := h.mst; rw [exEnds] at this; exact this)
  rw [h.err, cheapErr, if_neg (by rw [exEnds]; decide), if_neg (by decide), if_pos (by omega)]
end Go.Proofs.Ythegjmgljolalaa
