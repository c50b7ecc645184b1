/-
  Plain: the program's interval is exact.
-/
import Derived.Test.YtmkgfgnpgoegcaaM8
set_option linter.all false
namespace Go.Proofs.Ytmkgfgnpgoegcaa
open Go Go.W Go.RowKit

theorem okC_net {n i : Nat} {hid : List Bool} {k : Nat} (hk : k < n) : okC n i (hF hid) k = netCond hid i k := by
  unfold okC netCond hF
  rw [decide_eq_true hk, Bool.true_and]
  have : decide ((k : Int) = (i : Int)) = decide (k = i) := by simp only [Int.ofNat_inj]
  rw [this]
theorem potP_row {r : Int} {p : Int → Int} {x : Nat} (hx : x < 8) : potP r p x = p x := if_pos hx
theorem potP_col {r : Int} {p : Int → Int} (x : Nat) : potP r p (8 + x) = p (r + (x : Int)) := by
  unfold potP; rw [if_neg (by omega)]; congr 2; omega
theorem cell_netOut {r : Int} {c k : Nat} (h8 : k / c < 8) (p : Int → Int) (z x y : Int) : netOut p (cellArcs r c k z) [x, y] = (y - x) * (potP r p (k / c) - potP r p (8 + k % c)) := by
  rw [potP_row h8, potP_col]
  simp only [cellArcs, netOut, Int.natCast_ediv, Int.natCast_emod, Int.sub_mul, Int.mul_sub]
  omega
theorem arcs_table {r : Int} {c i n : Nat} {zs : List Int} {hid : List Bool} (hS : Shape c n (zF zs)) : ∀ k, k ≤ n → ∀ on, VFlow (netArcs r c zs hid i k) on →
    ∃ d : Nat → Int, (∀ q, q < k → okC n i (hF hid) q = false → d q = 0) ∧ (∀ q, q < k → okC n i (hF hid) q = true → -zF zs q ≤ d q) ∧ ∀ p, netOut p (netArcs r c zs hid i k) on = sumN (arcsTerm c (potP r p) d) k
  | 0, _, on, _ => ⟨fun _ => 0, fun q hq => absurd hq (by omega), fun q hq => absurd hq (by omega), fun p => by simp [netArcs, netOut, sumN]⟩
  | k + 1, hk, on, hV => by
    obtain ⟨r1, r2⟩ := hS.row (show k < n by omega)
    rw [netArcs] at hV
    obtain ⟨on1, on2, rfl, V1, V2⟩ := hV.split
    obtain ⟨d, d1, d2, d3⟩ := arcs_table hS k (by omega) on1 V1
    have hrest : ∀ (x : Int) p, sumN (arcsTerm c (potP r p) (updF d k x)) k = sumN (arcsTerm c (potP r p) d) k := fun x p => sumN_congr fun q hq => by
      unfold arcsTerm; rw [updF_other d x (by omega)]
    by_cases hc : netCond hid i k = true
    · rw [if_pos hc] at V2
      have hl2 := V2.len
      obtain ⟨x, y, rfl⟩ : ∃ x y, on2 = [x, y] := by
        match on2, hl2 with
        | [x, y], _ => exact ⟨x, y, rfl⟩
      have b0 := V2.bd 0 (by simp [cellArcs]) (by simp)
      have b1 := V2.bd 1 (by simp [cellArcs]) (by simp)
      simp only [cellArcs, List.getElem_cons_zero, List.getElem_cons_succ] at b0 b1
      refine ⟨updF d k (y - x), fun q hq ho => ?_, fun q hq ho => ?_, fun p => ?_⟩
      · by_cases e : q = k
        · subst e; rw [okC_net (by omega), hc] at ho; cases ho
        · rw [updF_other d _ e]; exact d1 q (by omega) ho
      · by_cases e : q = k
        · subst e; rw [updF_same]; unfold zF; omega
        · rw [updF_other d _ e]; exact d2 q (by omega) ho
      · rw [netArcs, if_pos hc, netOut_append _ _ _ _ _ V1.len, d3, sumN, hrest, cell_netOut r1]
        unfold arcsTerm; rw [updF_same]
    · rw [if_neg hc] at V2
      have : on2 = [] := by have := V2.len; simpa using this
      subst this
      refine ⟨updF d k 0, fun q hq ho => ?_, fun q hq ho => ?_, fun p => ?_⟩
      · by_cases e : q = k
        · subst e; rw [updF_same]
        · rw [updF_other d _ e]; exact d1 q (by omega) ho
      · by_cases e : q = k
        · subst e; rw [okC_net (by omega)] at ho; exact absurd ho hc
        · rw [updF_other d _ e]; exact d2 q (by omega) ho
      · rw [netArcs, if_neg hc, netOut_append _ _ _ _ _ V1.len, d3, sumN, hrest]
        unfold arcsTerm; rw [updF_same]; simp [netOut]
theorem table_arcs {r : Int} {c i n : Nat} {zs : List Int} {hid : List Bool} {v : Nat → Int} (hS : Shape c n (zF zs)) (a : Alike c n (zF zs) (hF hid) v) : ∀ k, k ≤ n →
    ∃ on, VFlow (netArcs r c zs hid i k) on ∧ ∀ p, netOut p (netArcs r c zs hid i k) on = sumN (arcsTerm c (potP r p) (fun q => if okC n i (hF hid) q = true then v q - zF zs q else 0)) k
  | 0, _ => ⟨[], ⟨rfl, fun i hi => by simp [netArcs] at hi⟩, fun p => by simp [netArcs, netOut, sumN]⟩
  | k + 1, hk => by
    obtain ⟨r1, r2⟩ := hS.row (show k < n by omega)
    obtain ⟨on, V, e⟩ := table_arcs (r := r) (i := i) hS a k (by omega)
    by_cases hc : netCond hid i k = true
    · have hv := a.pos k (by omega)
      have hv2 := a.le hS.n8 hS.c0 (show k < n by omega)
      have hz := hS.pos k (by omega)
      have hs := hS.sum
      have ez : zs.getD k 0 = zF zs k := rfl
      by_cases hlt : zF zs k ≤ v k
      · refine ⟨on ++ [0, v k - zF zs k], ?_, fun p => ?_⟩
        · rw [netArcs, if_pos hc]
          refine V.append ⟨rfl, fun j hj hj2 => ?_⟩
          match j, hj2 with
          | 0, _ => simp only [cellArcs, List.getElem_cons_zero]; omega
          | 1, _ => simp only [cellArcs, List.getElem_cons_zero, List.getElem_cons_succ]; omega
        · rw [netArcs, if_pos hc, netOut_append _ _ _ _ _ V.len, e, sumN, cell_netOut r1]
          unfold arcsTerm; dsimp only
          rw [if_pos (by rw [okC_net (by omega)]; exact hc)]; simp
      · refine ⟨on ++ [zF zs k - v k, 0], ?_, fun p => ?_⟩
        · rw [netArcs, if_pos hc]
          refine V.append ⟨rfl, fun j hj hj2 => ?_⟩
          match j, hj2 with
          | 0, _ => simp only [cellArcs, List.getElem_cons_zero]; omega
          | 1, _ => simp only [cellArcs, List.getElem_cons_zero, List.getElem_cons_succ]; omega
        · rw [netArcs, if_pos hc, netOut_append _ _ _ _ _ V.len, e, sumN, cell_netOut r1]
          unfold arcsTerm; dsimp only
          rw [if_pos (by rw [okC_net (by omega)]; exact hc), show 0 - (zF zs k - v k) = v k - zF zs k by omega]
    · refine ⟨on, ?_, fun p => ?_⟩
      · rw [netArcs, if_neg hc, List.append_nil]; exact V
      · rw [netArcs, if_neg hc, List.append_nil, e, sumN]
        unfold arcsTerm; dsimp only
        rw [if_neg (by rw [okC_net (by omega)]; exact hc)]; simp
/-- a potential of the program's nodes out of one of the reference's -/
def pOf (r : Int) (P : Nat → Int) : Int → Int := fun y => if y < r then P y.toNat else P (8 + (y - r).toNat)
theorem potP_pOf_row {r : Int} {P : Nat → Int} {x : Nat} (hx : (x : Int) < r) (h8 : x < 8) : potP r (pOf r P) x = P x := by
  rw [potP_row h8]; unfold pOf; rw [if_pos hx]; rfl
theorem potP_pOf_col {r : Int} {P : Nat → Int} (x : Nat) : potP r (pOf r P) (8 + x) = P (8 + x) := by
  rw [potP_col]; unfold pOf; rw [if_neg (by omega)]; congr 2; omega
theorem TblOk.rowlt {r : Int} {c : Nat} {zs : List Int} (h : TblOk r c zs) {k : Nat} (hk : k < zs.length) : ((k / c : Nat) : Int) < r := by
  obtain ⟨r1, r2, c1, c2⟩ := h.rng
  obtain ⟨rn, rfl⟩ := Int.eq_ofNat_of_zero_le (show 0 ≤ r by omega)
  have hl2 : zs.length = rn * c := by exact_mod_cast h.len
  have : k / c < rn := by rw [Nat.div_lt_iff_lt_mul (by omega)]; omega
  omega
theorem flow_table {r : Int} {c i : Nat} {zs : List Int} {hid : List Bool} (hT : TblOk r c zs) (hi : i < zs.length) {m : Nat} {s t amt : Int} (hn : NodesOk m (netArcs r c zs hid i zs.length)) (hs : 0 ≤ s ∧ s < m) (hf : ∃ on, IsFlow m (netArcs r c zs hid i zs.length) s t on amt) :
    ∃ u, Part c zs.length i (hF hid) (zF zs) u ∧ ∀ P, Out c zs.length P u = Out c zs.length P (zF zs) + amt * (pOf r P s - pOf r P t) := by
  have hS := hT.shape
  obtain ⟨on, hf⟩ := hf
  obtain ⟨d, d1, d2, d3⟩ := arcs_table hS zs.length (Nat.le_refl _) on hf.v
  refine ⟨fun q => zF zs q + d q, ⟨fun k hk => ?_, fun k hk ho => ?_⟩, fun P => ?_⟩
  · cases ho : okC zs.length i (hF hid) k with
    | true => have := d2 k hk ho; show 0 ≤ zF zs k + d k; omega
    | false => have := d1 k hk ho; have := hS.pos k hk; show 0 ≤ zF zs k + d k; omega
  · show zF zs k + d k = zF zs k; rw [d1 k hk ho]; omega
  · rw [← hf.pot hn hs, d3]
    unfold Out
    rw [← sumN_add]
    refine sumN_congr fun k hk => ?_
    obtain ⟨r1, r2⟩ := hS.row hk
    unfold arcsTerm
    rw [potP_pOf_row (hT.rowlt hk) r1, potP_pOf_col, Int.add_mul]
theorem table_flow {r : Int} {c i : Nat} {zs : List Int} {hid : List Bool} {v : Nat → Int} (hT : TblOk r c zs) (hi : i < zs.length) (a : Alike c zs.length (zF zs) (hF hid) v) :
    ∃ on, VFlow (netArcs r c zs hid i zs.length) on ∧ ∀ p : Int → Int, netOut p (netArcs r c zs hid i zs.length) on = (v i - zF zs i) * (p (r + ((i % c : Nat) : Int)) - p ((i / c : Nat) : Int)) := by
  have hS := hT.shape
  obtain ⟨on, V, e⟩ := table_arcs (r := r) (i := i) hS a zs.length (Nat.le_refl _)
  refine ⟨on, V, fun p => ?_⟩
  rw [e]
  have h1 := a.out (potP r p)
  unfold Out at h1
  have h2 : sumN (fun k => v k * (potP r p (k / c) - potP r p (8 + k % c)) - zF zs k * (potP r p (k / c) - potP r p (8 + k % c))) zs.length = 0 := by rw [sumN_sub]; omega
  rw [sumN_pick hi] at h2
  have h3 : sumN (fun k => if k = i then 0 else v k * (potP r p (k / c) - potP r p (8 + k % c)) - zF zs k * (potP r p (k / c) - potP r p (8 + k % c))) zs.length = sumN (arcsTerm c (potP r p) (fun q => if okC zs.length i (hF hid) q = true then v q - zF zs q else 0)) zs.length := by
    refine sumN_congr fun k hk => ?_
    unfold arcsTerm; dsimp only
    by_cases hki : k = i
    · subst hki; rw [if_pos rfl, if_neg (by simp [okC])]; simp
    · rw [if_neg hki]
      cases hh : hF hid k with
      | true => rw [if_pos (by simp [okC, hk, hh, hki]), Int.sub_mul]
      | false => rw [if_neg (by simp [okC, hh]), a.same k hk hh]; simp
  rw [← h3]
  obtain ⟨r1, r2⟩ := hS.row hi
  rw [potP_row r1, potP_col] at h2
  rw [Int.sub_mul, Int.mul_sub, Int.mul_sub]
  rw [Int.mul_sub, Int.mul_sub] at h2
  omega
theorem nodesOk {r c : Int} {zs : List Int} {hid : List Bool} {but : Int} {m : Nat} (hr : TblRange r c) (hl : (zs.length : Int) = r * c) (hZ : ZsOk zs) (hm : r + c = m) : NodesOk m (netArcs r c zs hid but zs.length) := fun a ha => by
  have := (netArcs_ok (hid := hid) (but := but) hr hl hZ zs.length (Nat.le_refl _) a ha).1
  simp [arcBad, isNode] at this; omega
theorem span_exact {r : Int} {c i : Nat} {zs : List Int} {hid : List Bool} {lo hi : Int} (hT : TblOk r c zs) (hi' : i < zs.length) (h : SpanOf r c zs hid i lo hi) : Exact c zs.length (zF zs) (hF hid) i lo hi := by
  have hS := hT.shape
  obtain ⟨r1, r2⟩ := hS.row hi'
  have hz := hS.pos i hi'
  have hm2 := Nat.mod_lt i hS.c0
  have hrl := hT.rowlt hi'
  replace h := h.2
  split at h
  · rename_i hf
    obtain ⟨rfl, rfl⟩ := h
    refine exact_of hS hi' (Alike.refl hS.pos) rfl (Alike.refl hS.pos) rfl fun v a => ?_
    rw [a.same i hi' hf]; exact ⟨Int.le_refl _, Int.le_refl _⟩
  · rename_i hf
    have hh : hF hid i = true := by simpa [hF] using hf
    obtain ⟨m, gain, loss, hm, hg, hs, g0, l0, rfl, rfl⟩ := h
    have hn : NodesOk m (netArcs r c zs hid i zs.length) := nodesOk hT.rng hT.len hT.cells hm
    have ez : zs.getD i 0 = zF zs i := rfl
    rw [ez]
    have e1 : ((i : Int) / (c : Int)) = ((i / c : Nat) : Int) := by simp
    have e2 : ((i : Int) % (c : Int)) = ((i % c : Nat) : Int) := by simp
    rw [e1, e2] at hg hs
    have hcol : 0 ≤ r + ((i % c : Nat) : Int) ∧ r + ((i % c : Nat) : Int) < m := by
      have := hT.rng.1
      have := Int.natCast_nonneg (i % c)
      have : ((i % c : Nat) : Int) < c := Int.ofNat_lt.2 hm2
      omega
    have hrow : 0 ≤ ((i / c : Nat) : Int) ∧ ((i / c : Nat) : Int) < m := ⟨Int.natCast_nonneg _, by omega⟩
    have hne : r + ((i % c : Nat) : Int) ≠ ((i / c : Nat) : Int) := by have := Int.natCast_nonneg (i % c); omega
    obtain ⟨⟨ong, hfg⟩, Sg, s1, s2, s3⟩ := hg
    obtain ⟨⟨onl, hfl⟩, Sl, t1, t2, t3⟩ := hs
    obtain ⟨u, Pu, Ou⟩ := flow_table hT hi' hn hcol ⟨ong, hfg⟩
    obtain ⟨u2, Pu2, Ou2⟩ := flow_table hT hi' hn hrow ⟨onl, hfl⟩
    have pr : ∀ P, pOf r P ((i / c : Nat) : Int) = P (i / c) := fun P => by unfold pOf; rw [if_pos hrl]; rfl
    have pc : ∀ P, pOf r P (r + ((i % c : Nat) : Int)) = P (8 + i % c) := fun P => by unfold pOf; rw [if_neg (by omega)]; congr 2; omega
    have A := Pu.upd_up hi' hh (d := gain) (by omega) (fun P => by rw [Ou, pr, pc])
    have hflow : ∀ v, Alike c zs.length (zF zs) (hF hid) v → v i - zF zs i ≤ gain ∧ zF zs i - v i ≤ loss := fun v av => by
      obtain ⟨on, V, e⟩ := table_flow (i := i) hT hi' av
      constructor
      · rw [← s3]
        refine weak_dual (t := ((i / c : Nat) : Int)) (on := on) ⟨V, fun w w0 w1 w2 w3 => ?_, ?_⟩ hn hcol s1 s2
        · rw [e, show ind w (r + ((i % c : Nat) : Int)) = 0 from if_neg fun x => w2 x.symm, show ind w ((i / c : Nat) : Int) = 0 from if_neg fun x => w3 x.symm]; simp
        · rw [e, show ind (r + ((i % c : Nat) : Int)) (r + ((i % c : Nat) : Int)) = 1 from if_pos rfl, show ind (r + ((i % c : Nat) : Int)) ((i / c : Nat) : Int) = 0 from if_neg fun x => hne x.symm]; simp
      · rw [← t3]
        refine weak_dual (t := r + ((i % c : Nat) : Int)) (on := on) ⟨V, fun w w0 w1 w2 w3 => ?_, ?_⟩ hn hrow t1 t2
        · rw [e, show ind w (r + ((i % c : Nat) : Int)) = 0 from if_neg fun x => w3 x.symm, show ind w ((i / c : Nat) : Int) = 0 from if_neg fun x => w2 x.symm]; simp
        · rw [e, show ind ((i / c : Nat) : Int) (r + ((i % c : Nat) : Int)) = 0 from if_neg hne, show ind ((i / c : Nat) : Int) ((i / c : Nat) : Int) = 1 from if_pos rfl]; omega
    have hall : ∀ v, Alike c zs.length (zF zs) (hF hid) v → zF zs i - min (zF zs i) loss ≤ v i ∧ v i ≤ zF zs i + gain := fun v av => by
      have := hflow v av
      have := av.pos i hi'
      omega
    by_cases hle : loss ≤ zF zs i
    · have B := Pu2.upd_down hi' hh (d := loss) (by omega) (fun P => by rw [Ou2, pr, pc])
      exact exact_of hS hi' B (by rw [updF_same]; omega) A (updF_same ..) hall
    · have W : AlikeW c zs.length i (zF zs) (hF hid) (updF u2 i (zF zs i - loss)) := by
        refine ⟨fun k hk hki => by rw [updF_other u2 _ hki]; exact Pu2.pos k hk, fun k hk hf2 => ?_, fun P => ?_⟩
        · have e : k ≠ i := fun e => by subst e; rw [hh] at hf2; cases hf2
          rw [updF_other u2 _ e]; exact Pu2.same k hk (by simp [okC, hf2])
        · rw [Out_upd P u2 _ hi', Pu2.atI hi', Ou2 P, pr, pc, show zF zs i - loss - zF zs i = -loss by omega, Int.neg_mul, ← Int.mul_neg, Int.neg_sub, Int.add_assoc, ← Int.mul_add]
          rw [show P (i / c) - P (8 + i % c) + (P (8 + i % c) - P (i / c)) = 0 by omega, Int.mul_zero, Int.add_zero]
      obtain ⟨d, hd⟩ := Int.eq_ofNat_of_zero_le hz
      obtain ⟨w, aw, ew⟩ := to_zero hi' hh d (zF zs) hS W (by rw [updF_same]; omega) hd
      exact exact_of hS hi' aw (by omega) A (updF_same ..) hall
end Go.Proofs.Ytmkgfgnpgoegcaa
