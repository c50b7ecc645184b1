/-
  Walk: the reference's flow.
-/
import Derived.Test.YtmkgfgnpgoegcaaT18
set_option linter.all false
namespace Go.Proofs.Ytmkgfgnpgoegcaa
open Go Go.W Go.RowKit

inductive Chn (bl : List Int) (s : Nat) : Nat → List Nat → Prop
  | nil : Chn bl s s []
  | cons {j b : Nat} {l : List Nat} (hne : j ≠ s) (hj : j < 16) (hb : b < 16) (hbl : bl.getD j 0 = b) (h : Chn bl s b l) : Chn bl s j (j :: l)
def bfN (bl : List Int) (j : Nat) : Nat := (bl.getD j 0).toNat
def minK (ms bl : List Int) : Int → List Nat → Int
  | k, [] => k
  | k, j :: l => minK ms bl (minI k (mget ms (bfN bl j) j)) l
def stepM (k : Int) (bl : List Int) (ms : List Int) (j : Nat) : List Int :=
  mset (mset ms (bfN bl j) j (mget ms (bfN bl j) j - k)) j (bfN bl j) (mget (mset ms (bfN bl j) j (mget ms (bfN bl j) j - k)) j (bfN bl j) + k)
def pushM (k : Int) (bl : List Int) : List Int → List Nat → List Int
  | ms, [] => ms
  | ms, j :: l => pushM k bl (stepM k bl ms j) l
theorem stepM_length (k : Int) (bl ms : List Int) (j : Nat) : (stepM k bl ms j).length = ms.length := by simp [stepM, mset_length]
theorem pushM_length (k : Int) (bl : List Int) : ∀ (l : List Nat) (ms : List Int), (pushM k bl ms l).length = ms.length
  | [], _ => rfl
  | j :: l, ms => by rw [pushM, pushM_length k bl l, stepM_length]
inductive Pushes (s t : Nat) (most : Int) (ms0 : List Int) : List Int → Int → Prop
  | init : Pushes s t most ms0 ms0 0
  | push {ms : List Int} {tot : Int} {bl : List Int} {l : List Nat} (h : Pushes s t most ms0 ms tot) (hlt : tot < most) (hw : WayRet ms s bl) (h0 : 0 ≤ bl.getD t 0) (hc : Chn bl s t l) : Pushes s t most ms0 (pushM (minK ms bl (most - tot) l) bl ms l) (tot + minK ms bl (most - tot) l)
def FlowRet (s t : Nat) (most : Int) (ms0 : List Int) (res : Int) : Prop :=
  ∃ ms, Pushes s t most ms0 ms res ∧ (¬ res < most ∨ ∃ bl, WayRet ms s bl ∧ bl.getD t 0 < 0)
theorem chn_exists {ms : List Int} {s : Nat} {bl : List Int} {rk : Nat → Nat}
    (hp : ∀ j, j < 16 → 0 ≤ bl.getD j 0 → j ≠ s → ∃ b : Nat, bl.getD j 0 = b ∧ b < 16 ∧ rk b < rk j ∧ 0 ≤ bl.getD b 0 ∧ 0 < mget ms b j) : ∀ (n j : Nat), rk j ≤ n → j < 16 → 0 ≤ bl.getD j 0 →
      ∃ l, Chn bl s j l ∧ l.length ≤ rk j ∧ l.Nodup ∧ s ∉ l ∧ (∀ x ∈ l, x < 16 ∧ rk x ≤ rk j ∧ bfN bl x < 16 ∧ 0 < mget ms (bfN bl x) x)
  | n, j, hn, hj, h0 => by
    by_cases hs : j = s
    · subst hs; exact ⟨[], .nil, by simp, by simp, by simp, by simp⟩
    · obtain ⟨b, h1, h2, h3, h4, h5⟩ := hp j hj h0 hs
      cases n with
      | zero => omega
      | succ n =>
        obtain ⟨l, i1, i2, i3, i4, i5⟩ := chn_exists hp n b (by omega) h2 h4
        refine ⟨j :: l, .cons hs hj h2 h1 i1, by simp; omega, ?_, ?_, ?_⟩
        · rw [List.nodup_cons]
          exact ⟨fun hm => by have := (i5 j hm).2.1; omega, i3⟩
        · simp only [List.mem_cons, not_or]
          exact ⟨fun e => hs e.symm, i4⟩
        · intro x hx
          rcases List.mem_cons.1 hx with rfl | hx
          · have : bfN bl x = b := by unfold bfN; rw [h1]; simp
            rw [this]
            exact ⟨hj, by omega, h2, h5⟩
          · obtain ⟨a1, a2, a3, a4⟩ := i5 x hx
            exact ⟨a1, by omega, a3, a4⟩
theorem Chn.inj {bl : List Int} {s : Nat} : ∀ {j : Nat} {l l' : List Nat}, Chn bl s j l → Chn bl s j l' → l = l'
  | _, _, _, .nil, .nil => rfl
  | _, _, _, .nil, .cons hne .. => absurd rfl hne
  | _, _, _, .cons hne .., .nil => absurd rfl hne
  | _, _, _, .cons _ _ _ hb h, .cons _ _ _ hb2 h2 => by
    have : (_ : Nat) = _ := Int.ofNat_inj.1 (hb.symm.trans hb2)
    subst this
    rw [Chn.inj h h2]
theorem WayRet.chain {ms : List Int} {s t : Nat} {bl : List Int} (h : WayRet ms s bl) (ht : t < 16) (h0 : 0 ≤ bl.getD t 0) :
    ∃ l, Chn bl s t l ∧ l.length ≤ 16 ∧ l.Nodup ∧ s ∉ l ∧ (∀ x ∈ l, x < 16 ∧ bfN bl x < 16 ∧ 0 < mget ms (bfN bl x) x) ∧ ∃ rk : Nat → Nat, ∀ x ∈ l, rk (bfN bl x) < rk x := by
  obtain ⟨rk, hr, hp⟩ := h.par
  obtain ⟨l, h1, h2, h3, h4, h5⟩ := chn_exists hp _ t (Nat.le_refl _) ht h0
  have h6 : ∀ {j : Nat} {l : List Nat}, j < 16 → 0 ≤ bl.getD j 0 → Chn bl s j l → ∀ x ∈ l, rk (bfN bl x) < rk x := by
    intro j l hj h0 hc
    induction hc with
    | nil => simp
    | @cons j b l hne hj hb hbl hc ih =>
      intro x hx
      obtain ⟨b', q1, q2, q3, q4, q5⟩ := hp j hj h0 hne
      have : b' = b := Int.ofNat_inj.1 (q1.symm.trans hbl)
      subst this
      rcases List.mem_cons.1 hx with rfl | hx
      · unfold bfN; rw [q1]; simpa using q3
      · exact ih hb q4 x hx
  exact ⟨l, h1, by have := hr t; omega, h3, h4, fun x hx => ⟨(h5 x hx).1, (h5 x hx).2.2⟩, rk, h6 ht h0 h1⟩
theorem minK_le (ms bl : List Int) : ∀ (l : List Nat) (k : Int), minK ms bl k l ≤ k ∧ ∀ x ∈ l, minK ms bl k l ≤ mget ms (bfN bl x) x
  | [], k => ⟨Int.le_refl _, by simp⟩
  | j :: l, k => by
    obtain ⟨h1, h2⟩ := minK_le ms bl l (minI k (mget ms (bfN bl j) j))
    rw [minK]
    have h3 : minI k (mget ms (bfN bl j) j) ≤ k ∧ minI k (mget ms (bfN bl j) j) ≤ mget ms (bfN bl j) j := by unfold minI; split <;> omega
    refine ⟨by omega, fun x hx => ?_⟩
    rcases List.mem_cons.1 hx with rfl | hx
    · omega
    · exact h2 x hx
theorem minK_pos {ms bl : List Int} : ∀ {l : List Nat} {k : Int}, 0 < k → (∀ x ∈ l, 0 < mget ms (bfN bl x) x) → 0 < minK ms bl k l
  | [], k, h, _ => h
  | j :: l, k, h, h2 => by
    rw [minK]
    refine minK_pos ?_ fun x hx => h2 x (by simp [hx])
    have := h2 j (by simp)
    unfold minI; split <;> omega
/-- all numbers within B -/
def MB (ms : List Int) (B : Int) : Prop := ∀ a b : Nat, -B ≤ mget ms a b ∧ mget ms a b ≤ B
theorem MB.mset {ms : List Int} {B v : Int} {a b : Nat} (h : MB ms B) (hv : -B ≤ v ∧ v ≤ B) : MB (mset ms a b v) B := fun a' b' => by
  have := h a' b'
  unfold mget Proofs.Ytmkgfgnpgoegcaa.mset at *
  simp only [List.getD_eq_getElem?_getD, List.getElem?_set] at *
  split
  · split
    · simpa using hv
    · simp at *; omega
  · exact this
theorem MB.mono {ms : List Int} {B B' : Int} (h : MB ms B) (hB : B ≤ B') : MB ms B' := fun a b => by have := h a b; omega
theorem MB.step {ms : List Int} {B k : Int} (h : MB ms B) (hk : 0 ≤ k) (bl : List Int) (j : Nat) : MB (stepM k bl ms j) (B + 2 * k) := by
  unfold stepM
  have h1 := h (bfN bl j) j
  have h2 : MB (Proofs.Ytmkgfgnpgoegcaa.mset ms (bfN bl j) j (mget ms (bfN bl j) j - k)) (B + k) := (h.mono (by omega)).mset (by omega)
  have h3 := h2 j (bfN bl j)
  exact (h2.mono (by omega)).mset (by omega)

theorem mcell {w0 w : World} {S : List Nat} {L : List Blk} (H : SH w0 S w L) (i : Nat) {g : Nat} {T : TypeId} {ms : List Int} (hi : L[i]? = some ⟨g, T, ms.map I⟩) (hl : ms.length = 256) {a b : Nat} (ha : a < 16) (hb : b < 16) : w.cell? ⟨g, 0 + a * 16 + b * 1, none⟩ = some (I (mget ms a b)) :=
  intCell H i hi _ (by omega)
theorem bcell {w0 w : World} {S : List Nat} {L : List Blk} (H : SH w0 S w L) (i : Nat) {g : Nat} {T : TypeId} {bl : List Int} (hi : L[i]? = some ⟨g, T, bl.map I⟩) (hl : bl.length = 16) {j : Nat} (hj : j < 16) : w.cell? ⟨g, 0 + j * 1, none⟩ = some (I (bl.getD j 0)) := by
  rw [show 0 + j * 1 = j by omega]; exact intCell H i hi _ (by omega)

set_option maxHeartbeats 1000000 in
theorem refFlow (ms0 : List Int) (s t : Nat) (most : Int) (w0 : World) (hl : ms0.length = 256) (hs : s < 16) (ht : t < 16) (hm : 0 ≤ most ∧ most ≤ 65536) (hB : MB ms0 200000) :
    Calls Try.prog 26 #[.agg (ms0.map I).toArray, I s, I t, I most] w0
      fun e w' => ∃ res : Int, e = .returned (I res) ∧ FlowRet s t most ms0 res ∧ 0 ≤ res ∧ res ≤ most ∧ Below w0.heap.size w0 w' := by
  have H := SH.refl w0
  refine Calls.ofWP Try.func26 rfl Try.results26 Try.ntmps26 rfl ?_
  refine WP.seq ?_
  refine WP.region ?_
  refine OPS.box rfl rfl rfl rfl (cA rfl) H ?_
  clear H; intro g4 w H
  refine OPS.val rfl rfl rfl (Ev.asI rfl) ?_
  refine OPS.nil ?_
  refine WP.seq ?_
  refine WP.region ?_
  refine OPS.val rfl rfl rfl (Ev.asI rfl) ?_
  refine OPS.nil ?_
  refine WP.seq ?_
  refine WP.block ?_
  refine WP.loop [8, 9, 10, 11, 12, 13, 14, 15, 16, 17, 18, 19, 20, 21, 22, 23, 24, 25, 26, 27, 28, 29, 30, 31, 32, 33, 34, 35, 36, 37, 38, 39, 40, 41, 42, 43, 44, 45, 46, 47, 48, 49, 50, 51, 52, 53, 54, 55, 56, 57, 58, 59, 60, 61, 62, 63, 64, 65, 66, 67, 68, 69, 70, 71, 72, 73, 74, 75, 76, 77, 78, 79, 80, 81, 82, 83] (fun g e w' => ∃ (ms : List Int) (tot : Int), e 9 = I tot ∧ 0 ≤ tot ∧ tot + g = most ∧ ms.length = 256 ∧ Pushes s t most ms0 ms tot ∧ MB ms (200000 + 32 * tot) ∧ SH w0 [] w' [⟨g4, 56, ms.map I⟩]) (most.toNat) (⟨ms0, 0, rfl, by omega, by omega, hl, .init, by simpa using hB, H⟩) ?_
  clear H
  rintro g u w ⟨ms, tot, h9, ht0, hg, hml, hP, hMB, H⟩
  refine WP.know (t := 9) h9 ?_
  have hnm : (ms.map I).length = 256 := by rw [List.length_map, hml]
  refine WP.seq ?_
  refine WP.seq ?_
  refine WP.region ?_
  refine OPS.val rfl rfl rfl (Ev.mvI rfl) ?_
  refine OPS.val rfl rfl rfl (Ev.mvI rfl) ?_
  refine OPS.val rfl rfl rfl (Ev.lss rfl rfl) ?_
  refine OPS.nil ?_
  refine WP.cond rfl (fun hc2 => ?_) (fun hc2 => ?_)
  · have hlt : tot < most := by simpa using hc2
    refine WP.skip ?_
    refine WP.block ?_
    refine WP.seq ?_
    refine WP.region ?_
    refine OPS.val rfl rfl rfl ((by first | exact Ev.loadO 0 H rfl (agg_run rfl) (size_run rfl) (by first | assumption | rfl) rfl | exact Ev.loadO 1 H rfl (agg_run rfl) (size_run rfl) (by first | assumption | rfl) rfl | exact Ev.loadO 2 H rfl (agg_run rfl) (size_run rfl) (by first | assumption | rfl) rfl | exact Ev.loadO 3 H rfl (agg_run rfl) (size_run rfl) (by first | assumption | rfl) rfl | exact Ev.loadO 4 H rfl (agg_run rfl) (size_run rfl) (by first | assumption | rfl) rfl | exact Ev.loadO 5 H rfl (agg_run rfl) (size_run rfl) (by first | assumption | rfl) rfl | exact Ev.loadO 6 H rfl (agg_run rfl) (size_run rfl) (by first | assumption | rfl) rfl | fail)) ?_
    refine OPS.val rfl rfl rfl (Ev.mvI rfl) ?_
    refine OPS.call (d := some 19) rfl rfl rfl (EvC.func (fun_run rfl)) (refWay ms s _ hml hs) ?_
    rintro _ w ⟨bl, rfl, hW, Hc⟩
    refine ⟨_, rfl, ?_⟩
    replace H := H.toBelow Hc
    clear Hc
    have hbl := hW.len
    have hbm : (bl.map I).length = 16 := by rw [List.length_map, hbl]
    refine OPS.alloc rfl rfl rfl rfl (zero_run rfl) rfl H ?_
    clear H; intro g10 w H
    refine OPS.store 0 _ rfl rfl rfl (size_run rfl) rfl (cA rfl) hbm (by simp [List.all_eq_true, Value.oneCell']) H rfl (Nat.le_refl 16) ?_
    clear H; intro w H
    replace H : SH w0 [] w [⟨g10, 54, bl.map I⟩, ⟨g4, 56, ms.map I⟩] := by
      have := putL_whole (bl.map I) ((List.replicate 16 (0 : Int)).map I) [] (by rw [hbm, List.length_map]; exact List.length_replicate)
      rw [List.append_nil, List.append_nil] at this
      have H : SH w0 [] w [⟨g10, 54, putL ((List.replicate 16 (0 : Int)).map I) 0 (bl.map I)⟩, _] := H
      rw [this] at H; exact H
    have c4 := bcell H 0 rfl hbl ht
    refine OPS.nil ?_
    refine WP.seq ?_
    refine WP.seq ?_
    refine WP.region ?_
    refine OPS.val rfl rfl rfl (Ev.mvI rfl) ?_
    refine OPS.val rfl rfl rfl (Ev.indexAddrA (arr_run rfl) (size_run rfl) rfl rfl rfl (by omega)) ?_
    refine OPS.val rfl rfl rfl (Ev.load1 (agg_run rfl) rfl (by first | exact H.ldL 0 rfl _ rfl | exact H.ldL 1 rfl _ rfl | exact H.ldL 2 rfl _ rfl | exact H.ldL 3 rfl _ rfl | exact H.ldL 4 rfl _ rfl | exact H.ldL 5 rfl _ rfl | exact H.ldL 6 rfl _ rfl | exact H.ldL 7 rfl _ rfl | exact H.ld0 (by assumption) | assumption | exact H.ldS (by assumption) (by assumption))) ?_
    refine OPS.val rfl rfl rfl (Ev.lss rfl rfl) ?_
    refine OPS.nil ?_
    refine WP.cond rfl (fun hc4 => ?_) (fun hc4 => ?_)
    · refine WP.seq ?_
      refine WP.region ?_
      refine OPS.val rfl rfl rfl (Ev.mvI rfl) ?_
      refine OPS.val rfl rfl rfl (Ev.asI rfl) ?_
      refine OPS.nil ?_
      refine WP.ret ⟨_, rfl, ?_⟩
      exact ⟨tot, rfl, ⟨ms, hP, .inr ⟨bl, hW, by simpa using hc4⟩⟩, ht0, by omega, H.below⟩
    have h0 : 0 ≤ bl.getD t 0 := by rw [decide_eq_false_iff_not] at hc4; omega
    obtain ⟨l, hCh, hl16, hnd, hsl, hlm, _⟩ := hW.chain ht h0
    refine WP.skip ?_
    refine WP.seq ?_
    refine WP.region ?_
    refine OPS.val rfl rfl rfl (Ev.mvI rfl) ?_
    refine OPS.val rfl rfl rfl (Ev.mvI rfl) ?_
    refine OPS.val rfl rfl rfl (Ev.sub rfl rfl (by unfold fits; omega)) ?_
    refine OPS.val rfl rfl rfl (Ev.asI rfl) ?_
    refine OPS.nil ?_
    refine WP.seq ?_
    refine WP.seq ?_
    refine WP.region ?_
    refine OPS.val rfl rfl rfl (Ev.mvI rfl) ?_
    refine OPS.val rfl rfl rfl (Ev.asI rfl) ?_
    refine OPS.nil ?_
    refine WP.block ?_
    refine WP.loop [11, 12, 29, 30, 31, 32, 33, 34, 35, 36, 37, 38, 39, 40, 41, 42, 43] (fun q e w' => ∃ (j : Nat) (rest : List Nat) (kk : Int), e 12 = I j ∧ e 11 = I kk ∧ rest.length = q ∧ Chn bl s j rest ∧ j < 16 ∧ minK ms bl kk rest = minK ms bl (most - tot) l ∧ SH w0 [] w' [⟨g10, 54, bl.map I⟩, ⟨g4, 56, ms.map I⟩]) (l.length) (⟨t, l, most - tot, rfl, rfl, rfl, hCh, ht, rfl, H⟩) ?_
    clear H
    rintro q u2 w ⟨j, rest, kk, h12, h11, hq, hCr, hj16, hmk, H⟩
    refine WP.know (t := 12) h12 (WP.know (t := 11) h11 ?_)
    refine WP.seq ?_
    refine WP.seq ?_
    refine WP.region ?_
    refine OPS.val rfl rfl rfl (Ev.mvI rfl) ?_
    refine OPS.val rfl rfl rfl (Ev.mvI rfl) ?_
    refine OPS.val rfl rfl rfl (Ev.neq rfl rfl) ?_
    refine OPS.nil ?_
    refine WP.cond rfl (fun hc8 => ?_) (fun hc8 => ?_)
    · have hjs : j ≠ s := by simp at hc8; omega
      obtain ⟨b, l', rfl, hb16, hbj, hCr'⟩ : ∃ (b : Nat) (l' : List Nat), rest = j :: l' ∧ b < 16 ∧ bl.getD j 0 = b ∧ Chn bl s b l' := by
        cases hCr with
        | nil => exact absurd rfl hjs
        | cons a1 a2 a3 a4 a5 => exact ⟨_, _, rfl, a3, a4, a5⟩
      have hbf : bfN bl j = b := by unfold bfN; rw [hbj]; simp
      have c4 := bcell H 0 rfl hbl hj16
      rw [hbj] at c4
      have c5 := mcell H 1 rfl hml hb16 hj16
      refine WP.skip ?_
      refine WP.seq ?_
      refine WP.block ?_
      refine WP.region ?_
      refine OPS.val rfl rfl rfl (Ev.mvI rfl) ?_
      refine OPS.val rfl rfl rfl (Ev.mvI rfl) ?_
      refine OPS.val rfl rfl rfl (Ev.indexAddrA (arr_run rfl) (size_run rfl) rfl rfl rfl (by omega)) ?_
      refine OPS.val rfl rfl rfl (Ev.load1 (agg_run rfl) rfl (by first | exact H.ldL 0 rfl _ rfl | exact H.ldL 1 rfl _ rfl | exact H.ldL 2 rfl _ rfl | exact H.ldL 3 rfl _ rfl | exact H.ldL 4 rfl _ rfl | exact H.ldL 5 rfl _ rfl | exact H.ldL 6 rfl _ rfl | exact H.ldL 7 rfl _ rfl | exact H.ld0 (by assumption) | assumption | exact H.ldS (by assumption) (by assumption))) ?_
      refine OPS.val rfl rfl rfl (Ev.mvI rfl) ?_
      refine OPS.val rfl rfl rfl (Ev.indexAddrA (arr_run rfl) (size_run rfl) rfl rfl rfl (by omega)) ?_
      refine OPS.val rfl rfl rfl (Ev.indexAddrA (arr_run rfl) (size_run rfl) rfl rfl rfl (by omega)) ?_
      refine OPS.val rfl rfl rfl (Ev.load1 (agg_run rfl) rfl (by first | exact H.ldL 0 rfl _ rfl | exact H.ldL 1 rfl _ rfl | exact H.ldL 2 rfl _ rfl | exact H.ldL 3 rfl _ rfl | exact H.ldL 4 rfl _ rfl | exact H.ldL 5 rfl _ rfl | exact H.ldL 6 rfl _ rfl | exact H.ldL 7 rfl _ rfl | exact H.ld0 (by assumption) | assumption | exact H.ldS (by assumption) (by assumption))) ?_
      refine OPS.val rfl rfl rfl (Ev.min rfl rfl) ?_
      refine OPS.val rfl rfl rfl (Ev.asI rfl) ?_
      refine OPS.nil ?_
      refine WP.region ?_
      refine OPS.val rfl rfl rfl (Ev.mvI rfl) ?_
      refine OPS.val rfl rfl rfl (Ev.indexAddrA (arr_run rfl) (size_run rfl) rfl rfl rfl (by omega)) ?_
      refine OPS.val rfl rfl rfl (Ev.load1 (agg_run rfl) rfl (by first | exact H.ldL 0 rfl _ rfl | exact H.ldL 1 rfl _ rfl | exact H.ldL 2 rfl _ rfl | exact H.ldL 3 rfl _ rfl | exact H.ldL 4 rfl _ rfl | exact H.ldL 5 rfl _ rfl | exact H.ldL 6 rfl _ rfl | exact H.ldL 7 rfl _ rfl | exact H.ld0 (by assumption) | assumption | exact H.ldS (by assumption) (by assumption))) ?_
      refine OPS.val rfl rfl rfl (Ev.asI rfl) ?_
      refine OPS.nil ?_
      refine ⟨(by repeat (first | exact Agree.refl _ _ | exact Agree.mix _ _ _ | refine Agree.upd rfl ?_ | refine Agree.mix2 rfl ?_)), q - 1, by simp at hq; omega, b, l', minI kk (mget ms b j), rfl, rfl, by simp at hq; omega, hCr', hb16, ?_, H⟩
      rw [← hmk, minK, hbf]
    have hjs : j = s := by simp at hc8; omega
    subst hjs
    have hrest : rest = [] := by
      cases hCr with
      | nil => rfl
      | cons a1 => exact absurd rfl a1
    subst hrest
    have hkk : kk = minK ms bl (most - tot) l := hmk
    have hk1 := minK_le ms bl l (most - tot)
    have hk2 : 0 < kk := by rw [hkk]; exact minK_pos (by omega) fun x hx => (hlm x hx).2.2
    rw [← hkk] at hk1
    clear hmk hCr
    refine WP.exit ?_
    refine XB.hit ?_
    refine WP.seq ?_
    refine WP.seq ?_
    refine WP.region ?_
    refine OPS.val rfl rfl rfl (Ev.mvI rfl) ?_
    refine OPS.val rfl rfl rfl (Ev.asI rfl) ?_
    refine OPS.nil ?_
    refine WP.block ?_
    refine WP.loop [13, 45, 46, 47, 48, 49, 50, 51, 52, 53, 54, 55, 56, 57, 58, 59, 60, 61, 62, 63, 64, 65, 66, 67, 68, 69, 70, 71, 72, 73, 74, 75, 76, 77, 78, 79, 80] (fun q e w' => ∃ (j2 : Nat) (rest : List Nat) (m : List Int), e 13 = I j2 ∧ rest.length = q ∧ Chn bl j j2 rest ∧ j2 < 16 ∧ m.length = 256 ∧ pushM kk bl m rest = pushM kk bl ms l ∧ rest.length ≤ 16 ∧ MB m (200000 + 32 * tot + 2 * kk * ((16 - rest.length : Nat) : Int)) ∧ SH w0 [] w' [⟨g10, 54, bl.map I⟩, ⟨g4, 56, m.map I⟩]) (l.length) (⟨t, l, ms, rfl, rfl, hCh, ht, hml, rfl, hl16, hMB.mono (by have := Int.mul_nonneg (show 0 ≤ 2 * kk by omega) (show (0 : Int) ≤ ((16 - l.length : Nat) : Int) by omega); omega), H⟩) ?_
    clear H
    rintro q u3 w ⟨j2, rest, m, h13, hq, hCr, hj16', hmm, hpm, hr16, hMm, H⟩
    refine WP.know (t := 13) h13 ?_
    refine WP.seq ?_
    refine WP.seq ?_
    refine WP.region ?_
    refine OPS.val rfl rfl rfl (Ev.mvI rfl) ?_
    refine OPS.val rfl rfl rfl (Ev.mvI rfl) ?_
    refine OPS.val rfl rfl rfl (Ev.neq rfl rfl) ?_
    refine OPS.nil ?_
    refine WP.cond rfl (fun hc12 => ?_) (fun hc12 => ?_)
    · have hjs : j2 ≠ j := by simp at hc12; omega
      obtain ⟨b, l', rfl, hb16, hbj, hCr'⟩ : ∃ (b : Nat) (l' : List Nat), rest = j2 :: l' ∧ b < 16 ∧ bl.getD j2 0 = b ∧ Chn bl j b l' := by
        cases hCr with
        | nil => exact absurd rfl hjs
        | cons a1 a2 a3 a4 a5 => exact ⟨_, _, rfl, a3, a4, a5⟩
      have hbf : bfN bl j2 = b := by unfold bfN; rw [hbj]; simp
      have hkb : kk ≤ 65536 := by omega
      have hbig : 200000 + 32 * tot + 2 * kk * ((16 - (j2 :: l').length : Nat) : Int) ≤ 10000000 := by
        have h1 : ((16 - (j2 :: l').length : Nat) : Int) ≤ 16 := by omega
        have h2 := Int.mul_le_mul_of_nonneg_left h1 (show 0 ≤ 2 * kk by omega)
        omega
      have hMm2 := hMm.mono hbig
      have hv1 := hMm2 b j2
      refine WP.skip ?_
      refine WP.seq ?_
      refine WP.block ?_
      refine WP.seq ?_
      refine WP.rtail 15 mixed (by kernel_rfl) H ?_
      clear H; intro w hbw14 H
      have c4 := bcell H 0 rfl hbl hj16'
      rw [hbj] at c4
      have c5 := mcell H 1 rfl hmm hb16 hj16'
      refine OPS.val rfl rfl rfl (Ev.mvI rfl) ?_
      refine OPS.val rfl rfl rfl (Ev.indexAddrA (arr_run rfl) (size_run rfl) rfl rfl rfl (by omega)) ?_
      refine OPS.val rfl rfl rfl (Ev.load1 (agg_run rfl) rfl (by first | exact H.ldL 0 rfl _ rfl | exact H.ldL 1 rfl _ rfl | exact H.ldL 2 rfl _ rfl | exact H.ldL 3 rfl _ rfl | exact H.ldL 4 rfl _ rfl | exact H.ldL 5 rfl _ rfl | exact H.ldL 6 rfl _ rfl | exact H.ldL 7 rfl _ rfl | exact H.ld0 (by assumption) | assumption | exact H.ldS (by assumption) (by assumption))) ?_
      refine OPS.val rfl rfl rfl (Ev.mvI rfl) ?_
      refine OPS.val rfl rfl rfl (Ev.mvI rfl) ?_
      refine OPS.val rfl rfl rfl (Ev.indexAddrA (arr_run rfl) (size_run rfl) rfl rfl rfl (by omega)) ?_
      refine OPS.val rfl rfl rfl (Ev.load1 (agg_run rfl) rfl (by first | exact H.ldL 0 rfl _ rfl | exact H.ldL 1 rfl _ rfl | exact H.ldL 2 rfl _ rfl | exact H.ldL 3 rfl _ rfl | exact H.ldL 4 rfl _ rfl | exact H.ldL 5 rfl _ rfl | exact H.ldL 6 rfl _ rfl | exact H.ldL 7 rfl _ rfl | exact H.ld0 (by assumption) | assumption | exact H.ldS (by assumption) (by assumption))) ?_
      refine OPS.val rfl rfl rfl (Ev.mvI rfl) ?_
      refine OPS.val rfl rfl rfl (Ev.indexAddrA (arr_run rfl) (size_run rfl) rfl rfl rfl (by omega)) ?_
      refine OPS.val rfl rfl rfl (Ev.indexAddrA (arr_run rfl) (size_run rfl) rfl rfl rfl (by omega)) ?_
      refine OPS.val rfl rfl rfl (Ev.load1 (agg_run rfl) rfl (by first | exact H.ldL 0 rfl _ rfl | exact H.ldL 1 rfl _ rfl | exact H.ldL 2 rfl _ rfl | exact H.ldL 3 rfl _ rfl | exact H.ldL 4 rfl _ rfl | exact H.ldL 5 rfl _ rfl | exact H.ldL 6 rfl _ rfl | exact H.ldL 7 rfl _ rfl | exact H.ld0 (by assumption) | assumption | exact H.ldS (by assumption) (by assumption))) ?_
      refine OPS.val rfl rfl rfl (Ev.mvI rfl) ?_
      refine OPS.val rfl rfl rfl (Ev.sub rfl rfl (by unfold fits; omega)) ?_
      refine OPS.val rfl rfl rfl (Ev.indexAddrA (arr_run rfl) (size_run rfl) rfl rfl rfl (by omega)) ?_
      refine OPS.val rfl rfl rfl (Ev.indexAddrA (arr_run rfl) (size_run rfl) rfl rfl rfl (by omega)) ?_
      refine OPS.nil_s ?_
      refine OPS.store 1 _ rfl rfl rfl (size_run rfl) rfl (cI rfl) rfl rfl H rfl (by rw [List.length_map]; omega) ?_
      clear H c4 c5; intro w H
      replace H : SH w0 [] w [⟨g10, 54, bl.map I⟩, ⟨g4, 56, (mset m b j2 (mget m b j2 - kk)).map I⟩] := by rw [mset, ← putL_ones]; exact H
      have hm1 : (mset m b j2 (mget m b j2 - kk)).length = 256 := by rw [mset_length, hmm]
      have hMm1 : MB (mset m b j2 (mget m b j2 - kk)) 10100000 := (hMm2.mono (by omega)).mset (by omega)
      have hv2 := hMm1 j2 b
      refine OPS.nil ?_
      refine WP.rtail 15 mixed (by kernel_rfl) H ?_
      clear H; intro w hbw15 H
      have c4 := bcell H 0 rfl hbl hj16'
      rw [hbj] at c4
      have c5 := mcell H 1 rfl hm1 hj16' hb16
      refine OPS.val rfl rfl rfl (Ev.mvI rfl) ?_
      refine OPS.val rfl rfl rfl (Ev.mvI rfl) ?_
      refine OPS.val rfl rfl rfl (Ev.indexAddrA (arr_run rfl) (size_run rfl) rfl rfl rfl (by omega)) ?_
      refine OPS.val rfl rfl rfl (Ev.load1 (agg_run rfl) rfl (by first | exact H.ldL 0 rfl _ rfl | exact H.ldL 1 rfl _ rfl | exact H.ldL 2 rfl _ rfl | exact H.ldL 3 rfl _ rfl | exact H.ldL 4 rfl _ rfl | exact H.ldL 5 rfl _ rfl | exact H.ldL 6 rfl _ rfl | exact H.ldL 7 rfl _ rfl | exact H.ld0 (by assumption) | assumption | exact H.ldS (by assumption) (by assumption))) ?_
      refine OPS.val rfl rfl rfl (Ev.mvI rfl) ?_
      refine OPS.val rfl rfl rfl (Ev.mvI rfl) ?_
      refine OPS.val rfl rfl rfl (Ev.indexAddrA (arr_run rfl) (size_run rfl) rfl rfl rfl (by omega)) ?_
      refine OPS.val rfl rfl rfl (Ev.load1 (agg_run rfl) rfl (by first | exact H.ldL 0 rfl _ rfl | exact H.ldL 1 rfl _ rfl | exact H.ldL 2 rfl _ rfl | exact H.ldL 3 rfl _ rfl | exact H.ldL 4 rfl _ rfl | exact H.ldL 5 rfl _ rfl | exact H.ldL 6 rfl _ rfl | exact H.ldL 7 rfl _ rfl | exact H.ld0 (by assumption) | assumption | exact H.ldS (by assumption) (by assumption))) ?_
      refine OPS.val rfl rfl rfl (Ev.indexAddrA (arr_run rfl) (size_run rfl) rfl rfl rfl (by omega)) ?_
      refine OPS.val rfl rfl rfl (Ev.indexAddrA (arr_run rfl) (size_run rfl) rfl rfl rfl (by omega)) ?_
      refine OPS.val rfl rfl rfl (Ev.load1 (agg_run rfl) rfl (by first | exact H.ldL 0 rfl _ rfl | exact H.ldL 1 rfl _ rfl | exact H.ldL 2 rfl _ rfl | exact H.ldL 3 rfl _ rfl | exact H.ldL 4 rfl _ rfl | exact H.ldL 5 rfl _ rfl | exact H.ldL 6 rfl _ rfl | exact H.ldL 7 rfl _ rfl | exact H.ld0 (by assumption) | assumption | exact H.ldS (by assumption) (by assumption))) ?_
      refine OPS.val rfl rfl rfl (Ev.mvI rfl) ?_
      refine OPS.val rfl rfl rfl (Ev.add rfl rfl (by unfold fits; omega)) ?_
      refine OPS.val rfl rfl rfl (Ev.indexAddrA (arr_run rfl) (size_run rfl) rfl rfl rfl (by omega)) ?_
      refine OPS.val rfl rfl rfl (Ev.indexAddrA (arr_run rfl) (size_run rfl) rfl rfl rfl (by omega)) ?_
      refine OPS.nil_s ?_
      refine OPS.store 1 _ rfl rfl rfl (size_run rfl) rfl (cI rfl) rfl rfl H rfl (by rw [List.length_map]; omega) ?_
      clear H c4 c5; intro w H
      replace H : SH w0 [] w [⟨g10, 54, bl.map I⟩, ⟨g4, 56, (stepM kk bl m j2).map I⟩] := by rw [stepM, hbf, mset, ← putL_ones]; exact H
      have c4 := bcell H 0 rfl hbl hj16'
      rw [hbj] at c4
      refine OPS.nil ?_
      refine WP.region ?_
      refine OPS.val rfl rfl rfl (Ev.mvI rfl) ?_
      refine OPS.val rfl rfl rfl (Ev.indexAddrA (arr_run rfl) (size_run rfl) rfl rfl rfl (by omega)) ?_
      refine OPS.val rfl rfl rfl (Ev.load1 (agg_run rfl) rfl (by first | exact H.ldL 0 rfl _ rfl | exact H.ldL 1 rfl _ rfl | exact H.ldL 2 rfl _ rfl | exact H.ldL 3 rfl _ rfl | exact H.ldL 4 rfl _ rfl | exact H.ldL 5 rfl _ rfl | exact H.ldL 6 rfl _ rfl | exact H.ldL 7 rfl _ rfl | exact H.ld0 (by assumption) | assumption | exact H.ldS (by assumption) (by assumption))) ?_
      refine OPS.val rfl rfl rfl (Ev.asI rfl) ?_
      refine OPS.nil ?_
      refine ⟨(by repeat (first | exact Agree.refl _ _ | exact Agree.mix _ _ _ | refine Agree.upd rfl ?_ | refine Agree.mix2 rfl ?_)), q - 1, by simp at hq; omega, b, l', stepM kk bl m j2, rfl, by simp at hq; omega, hCr', hb16, by rw [stepM_length, hmm], by rw [← hpm, pushM], by simp at hr16; omega, ?_, H⟩
      have h1 := hMm.step (show 0 ≤ kk by omega) bl j2
      have h2 : ((16 - l'.length : Nat) : Int) = ((16 - (j2 :: l').length : Nat) : Int) + 1 := by simp at hr16 ⊢; omega
      rw [h2, Int.mul_add, Int.mul_one]
      exact h1.mono (by omega)
    have hjs : j2 = j := by simp at hc12; omega
    subst hjs
    have hrest : rest = [] := by
      cases hCr with
      | nil => rfl
      | cons a1 => exact absurd rfl a1
    subst hrest
    rw [pushM] at hpm
    refine WP.exit ?_
    refine XB.hit ?_
    refine WP.region ?_
    refine OPS.val rfl rfl rfl (Ev.mvI rfl) ?_
    refine OPS.val rfl rfl rfl (Ev.mvI rfl) ?_
    refine OPS.val rfl rfl rfl (Ev.add rfl rfl (by unfold fits; omega)) ?_
    refine OPS.val rfl rfl rfl (Ev.asI rfl) ?_
    refine OPS.nil ?_
    have hP2 := hP.push hlt hW h0 hCh
    rw [← hkk, ← hpm] at hP2
    refine ⟨(by repeat (first | exact Agree.refl _ _ | exact Agree.mix _ _ _ | refine Agree.upd rfl ?_ | refine Agree.mix2 rfl ?_)), g - kk.toNat, by omega, m, tot + kk, rfl, by omega, by omega, hmm, hP2, hMm.mono (by simp; omega), H.reidx [1] (by decide) rfl⟩
  refine WP.exit ?_
  refine XB.hit ?_
  refine WP.seq ?_
  refine WP.region ?_
  refine OPS.val rfl rfl rfl (Ev.mvI rfl) ?_
  refine OPS.val rfl rfl rfl (Ev.asI rfl) ?_
  refine OPS.nil ?_
  refine WP.ret ⟨_, rfl, ?_⟩
  exact ⟨tot, rfl, ⟨ms, hP, .inl (by simpa using hc2)⟩, ht0, by omega, H.below⟩
end Go.Proofs.Ytmkgfgnpgoegcaa
