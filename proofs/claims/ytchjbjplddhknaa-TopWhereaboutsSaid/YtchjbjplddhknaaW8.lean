/-
  Walks: check.
-/
import Derived.Test.YtchjbjplddhknaaW5
set_option linter.all false
namespace Go.Proofs.Ytchjbjplddhknaa
open Go Go.W Go.RowKit
open Go.Maps (Keyed int_keyed keyOf_int_mk)

theorem wfI {a : Int} (h : fits a) : (Lit.int .i64 a).wf = true := by
  have h1 : IntKind.i64.min = -9223372036854775808 := by decide
  have h2 : IntKind.i64.max = 9223372036854775807 := by decide
  show (decide (IntKind.i64.min ≤ a) && decide (a ≤ IntKind.i64.max)) = true
  rw [h1, h2, Bool.and_eq_true, decide_eq_true_eq, decide_eq_true_eq]
  exact h
def opn (i : Int) (l : List Spt) : Option Spt := l.find? fun s => decide (s.wh = 3) && decide (s.ri = i)
def spt (σ : Sta) (x : Evt) : Spt := σ.sp.getD x.b.toNat default
def chkS (f : Flt) (σ : Sta) (x : Evt) : Int :=
  if x.k = 1 then (if (!prk (spt σ x) && decide (0 < (cntP 1 x.p σ.sp : Int))) = true then 22 else if prk (spt σ x) = true then 23 else 0)
  else if x.k = 2 then (if prk (spt σ x) = true then 23 else 0)
  else if x.k = 3 then (if prk (spt σ x) = false then 23 else if x.i ∈ σ.us then 6 else if ridB x.r σ.sp = true then 22 else 0)
  else if x.k = 4 then (match opn x.i σ.sp with
    | none => 7
    | some t => if prk (spt σ x) = false then 23 else if t.pa = true then 12 else 0)
  else if x.k = 5 ∨ x.k = 6 then (if (spt σ x).wh ≠ 3 then 23 else if (spt σ x).pa = decide (x.k = 5) then 12 else 0)
  else if x.k = 7 then (if (decide ((spt σ x).wh = 3) || decide ((spt σ x).wh = 4)) = true then 23 else if f.ts.getD x.p.toNat 0 ≤ (cntP 4 x.p σ.sp : Int) then 24 else 0)
  else if x.k = 8 then (if (decide ((spt σ x).wh = 3) || decide ((spt σ x).wh = 5)) = true then 23 else 0)
  else if x.k = 9 then (if (decide ((spt σ x).wh = 5) || decide ((spt σ x).wh = 6)) = true then 23 else 0)
  else 0
theorem chk1 {f : Flt} {σ : Sta} {x : Evt} (h : x.k = 1) : chkS f σ x = (if (!prk (spt σ x) && decide (0 < (cntP 1 x.p σ.sp : Int))) = true then 22 else if prk (spt σ x) = true then 23 else 0) := by simp [chkS, h]
theorem chk2 {f : Flt} {σ : Sta} {x : Evt} (h : x.k = 2) : chkS f σ x = (if prk (spt σ x) = true then 23 else 0) := by simp [chkS, h]
theorem chk3 {f : Flt} {σ : Sta} {x : Evt} (h : x.k = 3) : chkS f σ x = (if prk (spt σ x) = false then 23 else if x.i ∈ σ.us then 6 else if ridB x.r σ.sp = true then 22 else 0) := by simp [chkS, h]
theorem chk5 {f : Flt} {σ : Sta} {x : Evt} (h : x.k = 5) : chkS f σ x = (if (spt σ x).wh ≠ 3 then 23 else if (spt σ x).pa = decide (x.k = 5) then 12 else 0) := by simp [chkS, h]
theorem chk6 {f : Flt} {σ : Sta} {x : Evt} (h : x.k = 6) : chkS f σ x = (if (spt σ x).wh ≠ 3 then 23 else if (spt σ x).pa = decide (x.k = 5) then 12 else 0) := by simp [chkS, h]
theorem chk7 {f : Flt} {σ : Sta} {x : Evt} (h : x.k = 7) : chkS f σ x = (if (decide ((spt σ x).wh = 3) || decide ((spt σ x).wh = 4)) = true then 23 else if f.ts.getD x.p.toNat 0 ≤ (cntP 4 x.p σ.sp : Int) then 24 else 0) := by simp [chkS, h]
theorem chk8 {f : Flt} {σ : Sta} {x : Evt} (h : x.k = 8) : chkS f σ x = (if (decide ((spt σ x).wh = 3) || decide ((spt σ x).wh = 5)) = true then 23 else 0) := by simp [chkS, h]
theorem chk9 {f : Flt} {σ : Sta} {x : Evt} (h : x.k = 9) : chkS f σ x = (if (decide ((spt σ x).wh = 5) || decide ((spt σ x).wh = 6)) = true then 23 else 0) := by simp [chkS, h]
theorem chk4n {f : Flt} {σ : Sta} {x : Evt} (h : x.k = 4) (ho : opn x.i σ.sp = none) : chkS f σ x = 7 := by simp [chkS, h, ho]
theorem chk4s {f : Flt} {σ : Sta} {x : Evt} {t : Spt} (h : x.k = 4) (ho : opn x.i σ.sp = some t) : chkS f σ x = (if prk (spt σ x) = false then 23 else if t.pa = true then 12 else 0) := by simp [chkS, h, ho]
theorem chk0 {f : Flt} {σ : Sta} {x : Evt} (h : x.k ≠ 1 ∧ x.k ≠ 2 ∧ x.k ≠ 3 ∧ x.k ≠ 4 ∧ x.k ≠ 5 ∧ x.k ≠ 6 ∧ x.k ≠ 7 ∧ x.k ≠ 8 ∧ x.k ≠ 9) : chkS f σ x = 0 := by simp [chkS, h]
/-- what an event that is right is -/
structure Right (f : Flt) (x : Evt) : Prop where
  b : 0 ≤ x.b ∧ x.b < f.bk
  p : x.k = 7 → 0 ≤ x.p ∧ x.p < (f.ts.length : Int)
  k : 1 ≤ x.k ∧ x.k ≤ 10
  a : 0 ≤ x.a ∧ x.a ≤ 4294943999
  i : fits x.i
theorem right_of {f : Flt} {x : Evt} (h : chk f x = 0) : Right f x := by
  rw [chk] at h
  split at h
  · rename_i h0; exact absurd h h0
  split at h
  · cases h
  rename_i h1
  split at h
  · cases h
  rename_i h2
  split at h
  · cases h
  rename_i h3
  split at h
  · cases h
  rename_i h4
  simp only [wIn, Bool.or_eq_true, Bool.not_eq_true', Bool.and_eq_false_iff, decide_eq_false_iff_not, decide_eq_true_eq] at h1 h2 h3
  split at h
  · cases h
  rename_i h5
  have hi : fits x.i := by
    have h6 : nmB f x = true := by simpa using h5
    rw [nmB, Bool.and_eq_true] at h6
    have h7 := h6.2
    split at h7
    · simp only [wIn, Bool.and_eq_true, decide_eq_true_eq] at h7
      unfold fits; omega
    · have h8 : x.i = 0 := by simpa using h7
      unfold fits; omega
  refine ⟨by omega, fun hk => ?_, by omega, by omega, hi⟩
  rw [plB, if_neg (by omega), if_neg (by omega), if_pos hk] at h4
  simp only [wIn, Bool.and_eq_false_iff, decide_eq_false_iff_not] at h4
  omega
section
variable {w w' w0 : World} {l : Loc} {σ : Sta} {tg : Nat → Nat} {L : List Blk}
theorem Rep.sh (h : Rep w0 l σ tg) (H : SH w0 [] w L) : Rep w l σ tg := by
  have hlow : ∀ {g o}, w0.heap[g]? = some o → w.heap[g]? = some o := fun {g o} hg => (H.low g (Array.getElem?_eq_some_iff.1 hg).1 (by simp)).trans hg
  refine ⟨h.fl.sh H, hlow h.st, hlow h.sp, ?_, ?_, fun b hb hw => hlow (h.tr b hb hw), h.len, h.small, h.low, h.nOU, h.fr⟩
  · obtain ⟨m, hM, hm⟩ := h.op
    exact ⟨m, hM.sh H (by simp), hm⟩
  · obtain ⟨m, hM, hm⟩ := h.us
    exact ⟨m, hM.sh H (by simp), hm⟩
theorem Rep.below (h : Rep w l σ tg) (hb : Below w.heap.size w w') : Rep w' l σ tg := h.sh ((SH.refl w).toBelow hb)
theorem Rep.uni (h : Rep w l σ tg) {b c : Nat} (hb : b < σ.sp.length) (hc : c < σ.sp.length) (h1 : σ.sp[b].wh = 3) (h2 : σ.sp[c].wh = 3) (he : σ.sp[b].ri = σ.sp[c].ri) : b = c := by
  obtain ⟨m, hM, hm⟩ := h.op
  have hx := (hm _).2 ⟨b, hb, h1, rfl⟩
  have hy := (hm _).2 ⟨c, hc, h2, rfl⟩
  rw [he] at hx
  have ht : tg b = tg c := by simpa using hM.uniq hx hy
  have c1 : w.cell? ⟨tg b, 1, none⟩ = some (I b) := cell_heap (h.tr b hb h1) rfl
  have c2 : w.cell? ⟨tg c, 1, none⟩ = some (I c) := cell_heap (h.tr c hc h2) rfl
  rw [ht, c2] at c1
  have : (c : Int) = b := by simpa using c1
  omega
/-- the ride i, looked up -/
theorem Rep.ride (h : Rep w l σ tg) (i : Int) (hi : fits i) : ∃ A6 : Option Addr, (A6 = none ∧ opn i σ.sp = none ∨ ∃ b, ∃ hb : b < σ.sp.length, A6 = some ⟨tg b, 0, none⟩ ∧ σ.sp[b].wh = 3 ∧ σ.sp[b].ri = i ∧ opn i σ.sp = some σ.sp[b]) ∧
    ∀ {w' : World} {S : List Nat} {L : List Blk}, SH w S w' L → l.gO ∉ S → ∀ {e : Env} {ty : TypeId} {x ix : Operand}, ev e x = .map (some l.gO) → ev e ix = I i → Ev Try.prog e w' ty (.lookup 67 x ix false) (.pointer A6) := by
  obtain ⟨m, hM, hm⟩ := h.op
  have hky : ∃ kl, keyOf Try.prog 3 (I i) = some kl := ⟨_, keyOf_int_mk Try.underlying3 (wfI hi)⟩
  obtain ⟨kl, hkl⟩ := hky
  cases ho : opn i σ.sp with
  | none =>
    refine ⟨none, .inl ⟨rfl, rfl⟩, fun H hS e ty x ix hx hix => ?_⟩
    refine Ev.look0 (hM.sh H hS) (fun p hp he => ?_) (int_keyed Try.underlying3) Try.underlying67 (zero_run rfl) hkl hx hix
    obtain ⟨b, hb, hwh, rfl⟩ := (hm p).1 hp
    have hri : σ.sp[b].ri = i := by simpa using he
    rw [opn, List.find?_eq_none] at ho
    exact ho _ (List.getElem_mem hb) (by simp [hwh, hri])
  | some s =>
    have hs : (decide (s.wh = 3) && decide (s.ri = i)) = true := List.find?_some (p := fun s : Spt => decide (s.wh = 3) && decide (s.ri = i)) ho
    have hs' : s.wh = 3 ∧ s.ri = i := by simpa using hs
    obtain ⟨b, hb, rfl⟩ := List.mem_iff_getElem.1 (List.mem_of_find?_eq_some ho)
    refine ⟨some ⟨tg b, 0, none⟩, .inr ⟨b, hb, rfl, hs'.1, hs'.2, rfl⟩, fun H hS e ty x ix hx hix => ?_⟩
    exact Ev.look1 (hM.sh H hS) ((hm _).2 ⟨b, hb, hs'.1, by rw [hs'.2]⟩) (int_keyed Try.underlying3) Try.underlying67 (zero_run rfl) hkl hx hix
theorem Rep.used (h : Rep w l σ tg) (i : Int) (hi : fits i) : ∀ {w' : World} {S : List Nat} {L : List Blk}, SH w S w' L → l.gU ∉ S → ∀ {e : Env} {ty : TypeId} {x ix : Operand}, ev e x = .map (some l.gU) → ev e ix = I i → Ev Try.prog e w' ty (.lookup 68 x ix false) (.bool (decide (i ∈ σ.us))) := by
  obtain ⟨m, hM, hm⟩ := h.us
  have hky : ∃ kl, keyOf Try.prog 3 (I i) = some kl := ⟨_, keyOf_int_mk Try.underlying3 (wfI hi)⟩
  obtain ⟨kl, hkl⟩ := hky
  intro w' S L H hS e ty x ix hx hix
  by_cases hin : i ∈ σ.us
  · rw [decide_eq_true hin]
    exact Ev.look1 (hM.sh H hS) ((hm _).2 ⟨i, hin, rfl⟩) (int_keyed Try.underlying3) Try.underlying68 (zero_run rfl) hkl hx hix
  · rw [decide_eq_false hin]
    refine Ev.look0 (hM.sh H hS) (fun p hp he => ?_) (int_keyed Try.underlying3) Try.underlying68 (zero_run rfl) hkl hx hix
    obtain ⟨i', hi', rfl⟩ := (hm p).1 hp
    have : i' = i := by simpa using he
    exact hin (this ▸ hi')
end
set_option maxHeartbeats 4000000 in
theorem checkS (l : Loc) (σ : Sta) (tg : Nat → Nat) (x : Evt) (w0 : World) (h : Rep w0 l σ tg) (hx : chk l.f x = 0) :
    Calls Try.prog 31 #[.pointer (some ⟨l.gS, 0, none⟩), .agg (evC x).toArray] w0 fun e w' => e = .returned (I (chkS l.f σ x)) ∧ Below w0.heap.size w0 w' := by
  have H := SH.refl w0
  have hr := right_of hx
  obtain ⟨j, hxb⟩ : ∃ j : Nat, x.b = j := ⟨x.b.toNat, by have := hr.b; omega⟩
  have hlen := h.len
  have hsm := h.small
  have hjl : j < σ.sp.length := by have := hr.b; omega
  have hP := h.cell (k := 5) rfl
  have hO := h.cell (k := 6) rfl
  have hU := h.cell (k := 7) rfl
  have hT := h.cell (k := 4) rfl
  have hspt : spt σ x = σ.sp[j] := by rw [spt, hxb, Int.toNat_natCast, List.getD_eq_getElem?_getD, List.getElem?_eq_getElem hjl]; rfl
  obtain ⟨A6, hA6, hLo⟩ := h.ride x.i hr.i
  obtain ⟨bz, oz, hbo, hz⟩ := h.rows j hjl
  cases hbo
  have hz := hz
  unfold evC
  refine Calls.ofWP Try.func31 rfl Try.results31 Try.ntmps31 rfl ?_
  refine WP.seq ?_
  refine WP.region ?_
  refine OPS.box rfl rfl rfl rfl (cA rfl) H ?_
  clear H; intro g3 w H
  refine OPS.val rfl rfl rfl (Ev.asI rfl) ?_
  refine OPS.nil ?_
  refine WP.seq ?_
  refine WP.rheldC [5, 8, 9, 10, 11, 12, 13, 14, 15] (fun u w' => ∃ g5, u 5 = .pointer (some ⟨g5, 0, none⟩) ∧ SH w0 [] w' [⟨g5, 42, spC σ.sp[j]⟩, ⟨g3, 56, evC x⟩]) mixed H ?_ ?_
  · clear H; intro w hbw1 H
    refine OPH.take 0 rfl rfl rfl rfl (by kernel_rfl) (by kernel_rfl) (by kernel_rfl) rfl (by first | exact H | exact H.drop (List.sublist_cons_self _ _) | exact H.drop ((List.sublist_cons_self _ _).trans (List.sublist_cons_self _ _)) | exact H.drop ((List.sublist_cons_self _ _).trans ((List.sublist_cons_self _ _).trans (List.sublist_cons_self _ _))) | exact H.drop ((List.sublist_cons_self _ _).trans ((List.sublist_cons_self _ _).trans ((List.sublist_cons_self _ _).trans (List.sublist_cons_self _ _)))) | exact H.drop ((List.sublist_cons_self _ _).trans ((List.sublist_cons_self _ _).trans ((List.sublist_cons_self _ _).trans ((List.sublist_cons_self _ _).trans (List.sublist_cons_self _ _)))))) (fun w H => Ev.mvP rfl) ?_
    refine OPH.take 1 rfl rfl rfl rfl (by kernel_rfl) (by kernel_rfl) (by kernel_rfl) rfl (by first | exact H | exact H.drop (List.sublist_cons_self _ _) | exact H.drop ((List.sublist_cons_self _ _).trans (List.sublist_cons_self _ _)) | exact H.drop ((List.sublist_cons_self _ _).trans ((List.sublist_cons_self _ _).trans (List.sublist_cons_self _ _))) | exact H.drop ((List.sublist_cons_self _ _).trans ((List.sublist_cons_self _ _).trans ((List.sublist_cons_self _ _).trans (List.sublist_cons_self _ _)))) | exact H.drop ((List.sublist_cons_self _ _).trans ((List.sublist_cons_self _ _).trans ((List.sublist_cons_self _ _).trans ((List.sublist_cons_self _ _).trans (List.sublist_cons_self _ _)))))) (fun w H => (by first | exact Ev.nilCheckP rfl | exact Ev.nilCheckF rfl)) ?_
    refine OPH.take 2 rfl rfl rfl rfl (by kernel_rfl) (by kernel_rfl) (by kernel_rfl) rfl (by first | exact H | exact H.drop (List.sublist_cons_self _ _) | exact H.drop ((List.sublist_cons_self _ _).trans (List.sublist_cons_self _ _)) | exact H.drop ((List.sublist_cons_self _ _).trans ((List.sublist_cons_self _ _).trans (List.sublist_cons_self _ _))) | exact H.drop ((List.sublist_cons_self _ _).trans ((List.sublist_cons_self _ _).trans ((List.sublist_cons_self _ _).trans (List.sublist_cons_self _ _)))) | exact H.drop ((List.sublist_cons_self _ _).trans ((List.sublist_cons_self _ _).trans ((List.sublist_cons_self _ _).trans ((List.sublist_cons_self _ _).trans (List.sublist_cons_self _ _)))))) (fun w H => Ev.fieldAddr (fld_run rfl) rfl) ?_
    refine OPH.take 3 rfl rfl rfl rfl (by kernel_rfl) (by kernel_rfl) (by kernel_rfl) rfl (by first | exact H | exact H.drop (List.sublist_cons_self _ _) | exact H.drop ((List.sublist_cons_self _ _).trans (List.sublist_cons_self _ _)) | exact H.drop ((List.sublist_cons_self _ _).trans ((List.sublist_cons_self _ _).trans (List.sublist_cons_self _ _))) | exact H.drop ((List.sublist_cons_self _ _).trans ((List.sublist_cons_self _ _).trans ((List.sublist_cons_self _ _).trans (List.sublist_cons_self _ _)))) | exact H.drop ((List.sublist_cons_self _ _).trans ((List.sublist_cons_self _ _).trans ((List.sublist_cons_self _ _).trans ((List.sublist_cons_self _ _).trans (List.sublist_cons_self _ _)))))) (fun w H => Ev.load1 (agg_run rfl) rfl (by first | exact H.ldL 0 rfl _ rfl | exact H.ldL 1 rfl _ rfl | exact H.ldL 2 rfl _ rfl | exact H.ldL 3 rfl _ rfl | exact H.ldL 4 rfl _ rfl | exact H.ldL 5 rfl _ rfl | exact H.ldL 6 rfl _ rfl | exact H.ldL 7 rfl _ rfl | exact H.ld0 (by assumption) | assumption | exact H.ldS (by assumption) (by assumption))) ?_
    refine OPH.take 4 rfl rfl rfl rfl (by kernel_rfl) (by kernel_rfl) (by kernel_rfl) rfl (by first | exact H | exact H.drop (List.sublist_cons_self _ _) | exact H.drop ((List.sublist_cons_self _ _).trans (List.sublist_cons_self _ _)) | exact H.drop ((List.sublist_cons_self _ _).trans ((List.sublist_cons_self _ _).trans (List.sublist_cons_self _ _))) | exact H.drop ((List.sublist_cons_self _ _).trans ((List.sublist_cons_self _ _).trans ((List.sublist_cons_self _ _).trans (List.sublist_cons_self _ _)))) | exact H.drop ((List.sublist_cons_self _ _).trans ((List.sublist_cons_self _ _).trans ((List.sublist_cons_self _ _).trans ((List.sublist_cons_self _ _).trans (List.sublist_cons_self _ _)))))) (fun w H => Ev.fieldAddr (fld_run rfl) rfl) ?_
    refine OPH.take 5 rfl rfl rfl rfl (by kernel_rfl) (by kernel_rfl) (by kernel_rfl) rfl (by first | exact H | exact H.drop (List.sublist_cons_self _ _) | exact H.drop ((List.sublist_cons_self _ _).trans (List.sublist_cons_self _ _)) | exact H.drop ((List.sublist_cons_self _ _).trans ((List.sublist_cons_self _ _).trans (List.sublist_cons_self _ _))) | exact H.drop ((List.sublist_cons_self _ _).trans ((List.sublist_cons_self _ _).trans ((List.sublist_cons_self _ _).trans (List.sublist_cons_self _ _)))) | exact H.drop ((List.sublist_cons_self _ _).trans ((List.sublist_cons_self _ _).trans ((List.sublist_cons_self _ _).trans ((List.sublist_cons_self _ _).trans (List.sublist_cons_self _ _)))))) (fun w H => Ev.load1 (agg_run rfl) rfl (by first | exact H.ldL 0 rfl _ rfl | exact H.ldL 1 rfl _ rfl | exact H.ldL 2 rfl _ rfl | exact H.ldL 3 rfl _ rfl | exact H.ldL 4 rfl _ rfl | exact H.ldL 5 rfl _ rfl | exact H.ldL 6 rfl _ rfl | exact H.ldL 7 rfl _ rfl | exact H.ld0 (by assumption) | assumption | exact H.ldS (by assumption) (by assumption))) ?_
    refine OPH.take 6 rfl rfl rfl rfl (by kernel_rfl) (by kernel_rfl) (by kernel_rfl) rfl (by first | exact H | exact H.drop (List.sublist_cons_self _ _) | exact H.drop ((List.sublist_cons_self _ _).trans (List.sublist_cons_self _ _)) | exact H.drop ((List.sublist_cons_self _ _).trans ((List.sublist_cons_self _ _).trans (List.sublist_cons_self _ _))) | exact H.drop ((List.sublist_cons_self _ _).trans ((List.sublist_cons_self _ _).trans ((List.sublist_cons_self _ _).trans (List.sublist_cons_self _ _)))) | exact H.drop ((List.sublist_cons_self _ _).trans ((List.sublist_cons_self _ _).trans ((List.sublist_cons_self _ _).trans ((List.sublist_cons_self _ _).trans (List.sublist_cons_self _ _)))))) (fun w H => Ev.indexAddr (j := j) (el_run rfl) (size_run rfl) rfl rfl hxb hjl) ?_
    refine OPH.take 7 rfl rfl rfl rfl (by kernel_rfl) (by kernel_rfl) (by kernel_rfl) rfl (by first | exact H | exact H.drop (List.sublist_cons_self _ _) | exact H.drop ((List.sublist_cons_self _ _).trans (List.sublist_cons_self _ _)) | exact H.drop ((List.sublist_cons_self _ _).trans ((List.sublist_cons_self _ _).trans (List.sublist_cons_self _ _))) | exact H.drop ((List.sublist_cons_self _ _).trans ((List.sublist_cons_self _ _).trans ((List.sublist_cons_self _ _).trans (List.sublist_cons_self _ _)))) | exact H.drop ((List.sublist_cons_self _ _).trans ((List.sublist_cons_self _ _).trans ((List.sublist_cons_self _ _).trans ((List.sublist_cons_self _ _).trans (List.sublist_cons_self _ _)))))) (fun w H => Ev.loadN (spC σ.sp[j]) (agg_run rfl) (size_run rfl) rfl (cellsAt_sh H hz)) ?_
    refine OPH.all [8] (by kernel_rfl) (by simp) rfl ?_
    intro i hi; simp only [List.mem_cons, List.not_mem_nil, or_false] at hi
    rcases hi with rfl
    · refine ⟨_, rfl, ?_⟩
      refine OPS.alloc rfl rfl rfl rfl (zero_run rfl) rfl H ?_
      clear H; intro g5 w H
      refine OPS.nil ?_
      refine ⟨(by first | exact H | exact H.drop (List.sublist_cons_self _ _) | exact H.drop ((List.sublist_cons_self _ _).trans (List.sublist_cons_self _ _)) | exact H.drop ((List.sublist_cons_self _ _).trans ((List.sublist_cons_self _ _).trans (List.sublist_cons_self _ _))) | exact H.drop ((List.sublist_cons_self _ _).trans ((List.sublist_cons_self _ _).trans ((List.sublist_cons_self _ _).trans (List.sublist_cons_self _ _)))) | exact H.drop ((List.sublist_cons_self _ _).trans ((List.sublist_cons_self _ _).trans ((List.sublist_cons_self _ _).trans ((List.sublist_cons_self _ _).trans (List.sublist_cons_self _ _)))))), ?_⟩
      refine OPH.all [9] (by kernel_rfl) (by simp) rfl ?_
      intro i hi; simp only [List.mem_cons, List.not_mem_nil, or_false] at hi
      rcases hi with rfl
      · refine ⟨_, rfl, ?_⟩
        first | refine OPS.store 0 _ rfl rfl rfl (size_run rfl) rfl (cA rfl) rfl rfl H rfl (by simp) ?_ | refine OPS.store 1 _ rfl rfl rfl (size_run rfl) rfl (cA rfl) rfl rfl H rfl (by simp) ?_ | refine OPS.store 2 _ rfl rfl rfl (size_run rfl) rfl (cA rfl) rfl rfl H rfl (by simp) ?_ | refine OPS.store 3 _ rfl rfl rfl (size_run rfl) rfl (cA rfl) rfl rfl H rfl (by simp) ?_ | refine OPS.store 4 _ rfl rfl rfl (size_run rfl) rfl (cA rfl) rfl rfl H rfl (by simp) ?_ | refine OPS.store 5 _ rfl rfl rfl (size_run rfl) rfl (cA rfl) rfl rfl H rfl (by simp) ?_ | refine OPS.store 6 _ rfl rfl rfl (size_run rfl) rfl (cA rfl) rfl rfl H rfl (by simp) ?_ | refine OPS.store 7 _ rfl rfl rfl (size_run rfl) rfl (cA rfl) rfl rfl H rfl (by simp) ?_ | refine OPS.store 8 _ rfl rfl rfl (size_run rfl) rfl (cA rfl) rfl rfl H rfl (by simp) ?_
        clear H; intro w H; try simp only [List.set_cons_zero, List.set_cons_succ, putL, Nat.zero_add] at H
        refine OPS.nil ?_
        refine ⟨(by first | exact H | exact H.drop (List.sublist_cons_self _ _) | exact H.drop ((List.sublist_cons_self _ _).trans (List.sublist_cons_self _ _)) | exact H.drop ((List.sublist_cons_self _ _).trans ((List.sublist_cons_self _ _).trans (List.sublist_cons_self _ _))) | exact H.drop ((List.sublist_cons_self _ _).trans ((List.sublist_cons_self _ _).trans ((List.sublist_cons_self _ _).trans (List.sublist_cons_self _ _)))) | exact H.drop ((List.sublist_cons_self _ _).trans ((List.sublist_cons_self _ _).trans ((List.sublist_cons_self _ _).trans ((List.sublist_cons_self _ _).trans (List.sublist_cons_self _ _)))))), ?_⟩
        refine OPH.done (by kernel_rfl) ?_
        exact ⟨(by repeat (first | exact Agree.refl _ _ | exact Agree.mix _ _ _ | refine Agree.upd rfl ?_ | refine Agree.mix2 rfl ?_)), g5, rfl, H⟩
  clear H
  rintro u w ⟨g5, h5, H⟩
  refine WP.know (t := 5) h5 ?_
  refine WP.seq ?_
  refine WP.rstill mixed (by kernel_rfl) H ?_
  clear H; intro w hbw2 H
  refine OPS.val rfl rfl rfl (Ev.mvP rfl) ?_
  refine OPS.val rfl rfl rfl ((by first | exact Ev.nilCheckP rfl | exact Ev.nilCheckF rfl)) ?_
  refine OPS.val rfl rfl rfl (Ev.fieldAddr (fld_run rfl) rfl) ?_
  refine OPS.val rfl rfl rfl (Ev.load1 (agg_run rfl) rfl (by first | exact H.ldL 0 rfl _ rfl | exact H.ldL 1 rfl _ rfl | exact H.ldL 2 rfl _ rfl | exact H.ldL 3 rfl _ rfl | exact H.ldL 4 rfl _ rfl | exact H.ldL 5 rfl _ rfl | exact H.ldL 6 rfl _ rfl | exact H.ldL 7 rfl _ rfl | exact H.ld0 (by assumption) | assumption | exact H.ldS (by assumption) (by assumption))) ?_
  refine OPS.val rfl rfl rfl (Ev.fieldAddr (fld_run rfl) rfl) ?_
  refine OPS.val rfl rfl rfl (Ev.load1 (agg_run rfl) rfl (by first | exact H.ldL 0 rfl _ rfl | exact H.ldL 1 rfl _ rfl | exact H.ldL 2 rfl _ rfl | exact H.ldL 3 rfl _ rfl | exact H.ldL 4 rfl _ rfl | exact H.ldL 5 rfl _ rfl | exact H.ldL 6 rfl _ rfl | exact H.ldL 7 rfl _ rfl | exact H.ld0 (by assumption) | assumption | exact H.ldS (by assumption) (by assumption))) ?_
  refine OPS.val rfl rfl rfl (hLo H (by simp) rfl rfl) ?_
  refine OPS.val rfl rfl rfl (Ev.asP rfl) ?_
  refine OPS.nil_s ?_
  refine WP.seq ?_
  refine WP.region ?_
  refine OPS.val rfl rfl rfl (Ev.asF rfl) ?_
  refine OPS.nil ?_
  refine WP.seq ?_
  refine WP.seq ?_
  refine WP.region ?_
  refine OPS.val rfl rfl rfl (Ev.fieldAddr (fld_run rfl) rfl) ?_
  refine OPS.val rfl rfl rfl (Ev.load1 (agg_run rfl) rfl (by first | exact H.ldL 0 rfl _ rfl | exact H.ldL 1 rfl _ rfl | exact H.ldL 2 rfl _ rfl | exact H.ldL 3 rfl _ rfl | exact H.ldL 4 rfl _ rfl | exact H.ldL 5 rfl _ rfl | exact H.ldL 6 rfl _ rfl | exact H.ldL 7 rfl _ rfl | exact H.ld0 (by assumption) | assumption | exact H.ldS (by assumption) (by assumption))) ?_
  refine OPS.nil ?_
  refine WP.block ?_
  refine WP.seq ?_
  refine WP.block ?_
  refine WP.seq ?_
  refine WP.block ?_
  refine WP.seq ?_
  refine WP.block ?_
  refine WP.seq ?_
  refine WP.block ?_
  refine WP.seq ?_
  refine WP.block ?_
  refine WP.seq ?_
  refine WP.block ?_
  refine WP.seq ?_
  refine WP.block ?_
  refine WP.seq ?_
  refine WP.block ?_
  refine WP.seq ?_
  refine WP.seq ?_
  refine WP.seq ?_
  refine WP.region ?_
  refine OPS.val rfl rfl rfl (Ev.eql rfl rfl) ?_
  refine OPS.val rfl rfl rfl (Ev.asB rfl) ?_
  refine OPS.nil ?_
  refine WP.cond rfl (fun hc5 => ?_) (fun hc5 => ?_)
  · refine WP.exit ?_
    refine XB.hit ?_
    refine WP.seq ?_
    refine WP.region ?_
    refine OPS.val rfl rfl rfl ((by first | exact Ev.loadO 0 H rfl (agg_run rfl) (size_run rfl) (by first | assumption | rfl) rfl | exact Ev.loadO 1 H rfl (agg_run rfl) (size_run rfl) (by first | assumption | rfl) rfl | exact Ev.loadO 2 H rfl (agg_run rfl) (size_run rfl) (by first | assumption | rfl) rfl | exact Ev.loadO 3 H rfl (agg_run rfl) (size_run rfl) (by first | assumption | rfl) rfl | exact Ev.loadO 4 H rfl (agg_run rfl) (size_run rfl) (by first | assumption | rfl) rfl | exact Ev.loadO 5 H rfl (agg_run rfl) (size_run rfl) (by first | assumption | rfl) rfl | exact Ev.loadO 6 H rfl (agg_run rfl) (size_run rfl) (by first | assumption | rfl) rfl | (change Ev _ _ _ _ (Op.load 42 (Operand.tmp 5)) _; fail))) ?_
    refine OPS.call (d := some 43) rfl rfl rfl (EvC.func (fun_run rfl)) (parked σ.sp[j] _) ?_
    rintro _ w ⟨rfl, hb⟩
    refine ⟨_, rfl, ?_⟩
    replace H := H.toBelow hb; clear hb
    refine OPS.val rfl rfl rfl (Ev.not rfl) ?_
    refine OPS.val rfl rfl rfl (Ev.mvB rfl) ?_
    refine OPS.gval rfl rfl rfl rfl rfl (fun hg => Ev.mvP (by first | rfl | exact gvE hg rfl)) ?_
    refine OPS.gval rfl rfl rfl rfl rfl (fun hg => Ev.fieldAddr (fld_run rfl) (by first | rfl | exact gvE hg rfl)) ?_
    refine OPS.gval rfl rfl rfl rfl rfl (fun hg => Ev.load1 (agg_run rfl) (by first | rfl | exact gvE hg rfl) (by first | exact H.ldL 0 rfl _ rfl | exact H.ldL 1 rfl _ rfl | exact H.ldL 2 rfl _ rfl | exact H.ldL 3 rfl _ rfl | exact H.ldL 4 rfl _ rfl | exact H.ldL 5 rfl _ rfl | exact H.ldL 6 rfl _ rfl | exact H.ldL 7 rfl _ rfl | exact H.ld0 (by assumption) | assumption | exact H.ldS (by assumption) (by assumption))) ?_
    refine OPS.gcall0 (f := 49) (countS l σ tg 1 x.p _ (h.sh H)) (fun _ _ h => h) rfl rfl rfl rfl rfl (fun hg => EvC.conv (EvC.func (fun_run rfl)) (l3 (by first | rfl | exact gvE hg rfl) (by first | rfl | exact gvE hg rfl) (by first | rfl | exact gvE hg rfl))) ?_
    intro w hbc; replace H := H.toBelow hbc
    refine OPS.gval rfl rfl rfl rfl rfl (fun hg => Ev.gtr (by first | rfl | exact gvE hg rfl) (by first | rfl | exact gvE hg rfl)) ?_
    refine OPS.val rfl rfl rfl ((by first | exact Ev.pickOr rfl rfl rfl | exact Ev.pickAnd rfl rfl rfl)) ?_
    refine OPS.nil ?_
    refine WP.cond rfl (fun hc14 => ?_) (fun hc14 => ?_)
    · refine WP.seq ?_
      refine WP.region ?_
      refine OPS.val rfl rfl rfl (Ev.asI rfl) ?_
      refine OPS.nil ?_
      refine WP.ret ⟨_, rfl, ?_⟩
      have hk : x.k = 1 := by simpa using hc5
      have hv : chkS l.f σ x = 22 := by rw [chk1 hk, hspt, if_pos hc14]
      exact ⟨by rw [hv]; rfl, H.below⟩
    refine WP.skip ?_
    refine WP.seq ?_
    refine WP.seq ?_
    refine WP.region ?_
    refine OPS.val rfl rfl rfl (Ev.mvF rfl) ?_
    refine OPS.val rfl rfl rfl ((by first | exact Ev.loadO 0 H rfl (agg_run rfl) (size_run rfl) (by first | assumption | rfl) rfl | exact Ev.loadO 1 H rfl (agg_run rfl) (size_run rfl) (by first | assumption | rfl) rfl | exact Ev.loadO 2 H rfl (agg_run rfl) (size_run rfl) (by first | assumption | rfl) rfl | exact Ev.loadO 3 H rfl (agg_run rfl) (size_run rfl) (by first | assumption | rfl) rfl | exact Ev.loadO 4 H rfl (agg_run rfl) (size_run rfl) (by first | assumption | rfl) rfl | exact Ev.loadO 5 H rfl (agg_run rfl) (size_run rfl) (by first | assumption | rfl) rfl | exact Ev.loadO 6 H rfl (agg_run rfl) (size_run rfl) (by first | assumption | rfl) rfl | (change Ev _ _ _ _ (Op.load 42 (Operand.tmp 5)) _; fail))) ?_
    refine OPS.call (d := some 54) rfl rfl rfl (EvC.func (fun_run rfl)) (parked σ.sp[j] _) ?_
    rintro _ w ⟨rfl, hb⟩
    refine ⟨_, rfl, ?_⟩
    replace H := H.toBelow hb; clear hb
    refine OPS.call (d := some 55) rfl rfl rfl (EvC.clos rfl (fun_run (by first | rfl | assumption))) (refused (prk σ.sp[j]) 23 _) ?_
    rintro _ w ⟨rfl, hb⟩
    refine ⟨_, rfl, ?_⟩
    replace H := H.toBelow hb; clear hb
    refine OPS.val rfl rfl rfl (Ev.asI rfl) ?_
    refine OPS.nil ?_
    refine WP.ret ⟨_, rfl, ?_⟩
    have hv : chkS l.f σ x = if prk σ.sp[j] = true then 23 else 0 := by
      first
        | (have hk : x.k = 2 := by simpa using hc6
           rw [chk2 hk, hspt])
        | (have hk : x.k = 1 := by simpa using hc5
           rw [chk1 hk, hspt, if_neg (by rw [hc14]; simp)])
    exact ⟨by rw [hv]; rfl, H.below⟩
  refine WP.skip ?_
  refine WP.seq ?_
  refine WP.seq ?_
  refine WP.region ?_
  refine OPS.val rfl rfl rfl (Ev.eql rfl rfl) ?_
  refine OPS.val rfl rfl rfl (Ev.asB rfl) ?_
  refine OPS.nil ?_
  refine WP.cond rfl (fun hc6 => ?_) (fun hc6 => ?_)
  · refine WP.exit ?_
    refine XB.miss rfl ?_
    refine XB.hit ?_
    refine WP.seq ?_
    refine WP.seq ?_
    refine WP.region ?_
    refine OPS.val rfl rfl rfl (Ev.mvF rfl) ?_
    refine OPS.val rfl rfl rfl ((by first | exact Ev.loadO 0 H rfl (agg_run rfl) (size_run rfl) (by first | assumption | rfl) rfl | exact Ev.loadO 1 H rfl (agg_run rfl) (size_run rfl) (by first | assumption | rfl) rfl | exact Ev.loadO 2 H rfl (agg_run rfl) (size_run rfl) (by first | assumption | rfl) rfl | exact Ev.loadO 3 H rfl (agg_run rfl) (size_run rfl) (by first | assumption | rfl) rfl | exact Ev.loadO 4 H rfl (agg_run rfl) (size_run rfl) (by first | assumption | rfl) rfl | exact Ev.loadO 5 H rfl (agg_run rfl) (size_run rfl) (by first | assumption | rfl) rfl | exact Ev.loadO 6 H rfl (agg_run rfl) (size_run rfl) (by first | assumption | rfl) rfl | (change Ev _ _ _ _ (Op.load 42 (Operand.tmp 5)) _; fail))) ?_
    refine OPS.call (d := some 54) rfl rfl rfl (EvC.func (fun_run rfl)) (parked σ.sp[j] _) ?_
    rintro _ w ⟨rfl, hb⟩
    refine ⟨_, rfl, ?_⟩
    replace H := H.toBelow hb; clear hb
    refine OPS.call (d := some 55) rfl rfl rfl (EvC.clos rfl (fun_run (by first | rfl | assumption))) (refused (prk σ.sp[j]) 23 _) ?_
    rintro _ w ⟨rfl, hb⟩
    refine ⟨_, rfl, ?_⟩
    replace H := H.toBelow hb; clear hb
    refine OPS.val rfl rfl rfl (Ev.asI rfl) ?_
    refine OPS.nil ?_
    refine WP.ret ⟨_, rfl, ?_⟩
    have hv : chkS l.f σ x = if prk σ.sp[j] = true then 23 else 0 := by
      first
        | (have hk : x.k = 2 := by simpa using hc6
           rw [chk2 hk, hspt])
        | (have hk : x.k = 1 := by simpa using hc5
           rw [chk1 hk, hspt, if_neg (by rw [hc14]; simp)])
    exact ⟨by rw [hv]; rfl, H.below⟩
  refine WP.skip ?_
  refine WP.seq ?_
  refine WP.seq ?_
  refine WP.region ?_
  refine OPS.val rfl rfl rfl (Ev.eql rfl rfl) ?_
  refine OPS.val rfl rfl rfl (Ev.asB rfl) ?_
  refine OPS.nil ?_
  refine WP.cond rfl (fun hc7 => ?_) (fun hc7 => ?_)
  · refine WP.exit ?_
    refine XB.miss rfl ?_
    refine XB.miss rfl ?_
    refine XB.hit ?_
    refine WP.seq ?_
    refine WP.seq ?_
    refine WP.block ?_
    refine WP.seq ?_
    refine WP.region ?_
    refine OPS.val rfl rfl rfl ((by first | exact Ev.loadO 0 H rfl (agg_run rfl) (size_run rfl) (by first | assumption | rfl) rfl | exact Ev.loadO 1 H rfl (agg_run rfl) (size_run rfl) (by first | assumption | rfl) rfl | exact Ev.loadO 2 H rfl (agg_run rfl) (size_run rfl) (by first | assumption | rfl) rfl | exact Ev.loadO 3 H rfl (agg_run rfl) (size_run rfl) (by first | assumption | rfl) rfl | exact Ev.loadO 4 H rfl (agg_run rfl) (size_run rfl) (by first | assumption | rfl) rfl | exact Ev.loadO 5 H rfl (agg_run rfl) (size_run rfl) (by first | assumption | rfl) rfl | exact Ev.loadO 6 H rfl (agg_run rfl) (size_run rfl) (by first | assumption | rfl) rfl | (change Ev _ _ _ _ (Op.load 42 (Operand.tmp 5)) _; fail))) ?_
    refine OPS.call (d := some 58) rfl rfl rfl (EvC.func (fun_run rfl)) (parked σ.sp[j] _) ?_
    rintro _ w ⟨rfl, hb⟩
    refine ⟨_, rfl, ?_⟩
    replace H := H.toBelow hb; clear hb
    refine OPS.val rfl rfl rfl (Ev.not rfl) ?_
    refine OPS.val rfl rfl rfl (Ev.asB rfl) ?_
    refine OPS.nil ?_
    refine WP.cond rfl (fun hc17 => ?_) (fun hc17 => ?_)
    · refine WP.seq ?_
      refine WP.region ?_
      refine OPS.val rfl rfl rfl (Ev.asI rfl) ?_
      refine OPS.nil ?_
      refine WP.ret ⟨_, rfl, ?_⟩
      have hk : x.k = 3 := by simpa using hc7
      have hp : prk σ.sp[j] = false := by simpa using hc17
      have hv : chkS l.f σ x = 23 := by rw [chk3 hk, hspt, if_pos hp]
      exact ⟨by rw [hv]; rfl, H.below⟩
    have hp : prk σ.sp[j] = true := by simpa using hc17
    refine WP.seq ?_
    refine WP.rstill mixed (by kernel_rfl) H ?_
    clear H; intro w hbw19 H
    refine OPS.val rfl rfl rfl (Ev.mvP rfl) ?_
    refine OPS.val rfl rfl rfl ((by first | exact Ev.nilCheckP rfl | exact Ev.nilCheckF rfl)) ?_
    refine OPS.val rfl rfl rfl (Ev.fieldAddr (fld_run rfl) rfl) ?_
    refine OPS.val rfl rfl rfl (Ev.load1 (agg_run rfl) rfl (by first | exact H.ldL 0 rfl _ rfl | exact H.ldL 1 rfl _ rfl | exact H.ldL 2 rfl _ rfl | exact H.ldL 3 rfl _ rfl | exact H.ldL 4 rfl _ rfl | exact H.ldL 5 rfl _ rfl | exact H.ldL 6 rfl _ rfl | exact H.ldL 7 rfl _ rfl | exact H.ld0 (by assumption) | assumption | exact H.ldS (by assumption) (by assumption))) ?_
    refine OPS.val rfl rfl rfl (Ev.fieldAddr (fld_run rfl) rfl) ?_
    refine OPS.val rfl rfl rfl (Ev.load1 (agg_run rfl) rfl (by first | exact H.ldL 0 rfl _ rfl | exact H.ldL 1 rfl _ rfl | exact H.ldL 2 rfl _ rfl | exact H.ldL 3 rfl _ rfl | exact H.ldL 4 rfl _ rfl | exact H.ldL 5 rfl _ rfl | exact H.ldL 6 rfl _ rfl | exact H.ldL 7 rfl _ rfl | exact H.ld0 (by assumption) | assumption | exact H.ldS (by assumption) (by assumption))) ?_
    refine OPS.val rfl rfl rfl (h.used x.i hr.i H (by simp) rfl rfl) ?_
    refine OPS.val rfl rfl rfl (Ev.asB rfl) ?_
    refine OPS.nil_s ?_
    refine WP.cond rfl (fun hc19 => ?_) (fun hc19 => ?_)
    · refine WP.seq ?_
      refine WP.region ?_
      refine OPS.val rfl rfl rfl (Ev.asI rfl) ?_
      refine OPS.nil ?_
      refine WP.ret ⟨_, rfl, ?_⟩
      have hk : x.k = 3 := by simpa using hc7
      have hu : x.i ∈ σ.us := by simpa using hc19
      have hv : chkS l.f σ x = 6 := by rw [chk3 hk, hspt, if_neg (by simp [hp]), if_pos hu]
      exact ⟨by rw [hv]; rfl, H.below⟩
    refine WP.skip ?_
    refine WP.seq ?_
    refine WP.region ?_
    refine OPS.val rfl rfl rfl (Ev.mvF rfl) ?_
    refine OPS.val rfl rfl rfl (Ev.mvP rfl) ?_
    refine OPS.val rfl rfl rfl (Ev.fieldAddr (fld_run rfl) rfl) ?_
    refine OPS.val rfl rfl rfl (Ev.load1 (agg_run rfl) rfl (by first | exact H.ldL 0 rfl _ rfl | exact H.ldL 1 rfl _ rfl | exact H.ldL 2 rfl _ rfl | exact H.ldL 3 rfl _ rfl | exact H.ldL 4 rfl _ rfl | exact H.ldL 5 rfl _ rfl | exact H.ldL 6 rfl _ rfl | exact H.ldL 7 rfl _ rfl | exact H.ld0 (by assumption) | assumption | exact H.ldS (by assumption) (by assumption))) ?_
    refine OPS.call (d := some 72) rfl rfl rfl (EvC.func (fun_run rfl)) (ridingS l σ tg x.r _ (h.sh H)) ?_
    rintro _ w ⟨rfl, hb⟩
    refine ⟨_, rfl, ?_⟩
    replace H := H.toBelow hb; clear hb
    refine OPS.call (d := some 73) rfl rfl rfl (EvC.clos rfl (fun_run (by first | rfl | assumption))) (refused (ridB x.r σ.sp) 22 _) ?_
    rintro _ w ⟨rfl, hb⟩
    refine ⟨_, rfl, ?_⟩
    replace H := H.toBelow hb; clear hb
    refine OPS.val rfl rfl rfl (Ev.asI rfl) ?_
    refine OPS.nil ?_
    refine WP.ret ⟨_, rfl, ?_⟩
    have hk : x.k = 3 := by simpa using hc7
    have hu : ¬ x.i ∈ σ.us := by simpa using hc19
    have hv : chkS l.f σ x = if ridB x.r σ.sp = true then 22 else 0 := by rw [chk3 hk, hspt, if_neg (by simp [hp]), if_neg hu]
    exact ⟨by rw [hv]; rfl, H.below⟩
  refine WP.skip ?_
  refine WP.seq ?_
  refine WP.seq ?_
  refine WP.region ?_
  refine OPS.val rfl rfl rfl (Ev.eql rfl rfl) ?_
  refine OPS.val rfl rfl rfl (Ev.asB rfl) ?_
  refine OPS.nil ?_
  refine WP.cond rfl (fun hc8 => ?_) (fun hc8 => ?_)
  · refine WP.exit ?_
    refine XB.miss rfl ?_
    refine XB.miss rfl ?_
    refine XB.miss rfl ?_
    refine XB.hit ?_
    refine WP.seq ?_
    refine WP.seq ?_
    refine WP.block ?_
    refine WP.seq ?_
    refine WP.region ?_
    refine OPS.val rfl rfl rfl (Ev.mvP rfl) ?_
    refine OPS.val rfl rfl rfl (Ev.eqlPn Try.runUnderlying99 rfl rfl) ?_
    refine OPS.val rfl rfl rfl (Ev.asB rfl) ?_
    refine OPS.nil ?_
    refine WP.cond rfl (fun hc22 => ?_) (fun hc22 => ?_)
    · refine WP.seq ?_
      refine WP.region ?_
      refine OPS.val rfl rfl rfl (Ev.asI rfl) ?_
      refine OPS.nil ?_
      refine WP.ret ⟨_, rfl, ?_⟩
      have hk : x.k = 4 := by simpa using hc8
      rcases hA6 with ⟨h1, h2⟩ | ⟨b6, hb6, h1, _⟩
      · have hv : chkS l.f σ x = 7 := chk4n hk h2
        exact ⟨by rw [hv]; rfl, H.below⟩
      · rw [h1] at hc22; cases hc22
    obtain ⟨b6, hb6, rfl, hw6, hi6, ho6⟩ : ∃ b, ∃ hb : b < σ.sp.length, A6 = some ⟨tg b, 0, none⟩ ∧ σ.sp[b].wh = 3 ∧ σ.sp[b].ri = x.i ∧ opn x.i σ.sp = some σ.sp[b] := by
      rcases hA6 with ⟨h1, _⟩ | h1
      · rw [h1] at hc22; cases hc22
      · exact h1
    have hp6 : w0.cell? ⟨tg b6, 2, none⟩ = some (.bool σ.sp[b6].pa) := cell_heap (h.tr b6 hb6 hw6) rfl
    refine WP.seq ?_
    refine WP.region ?_
    refine OPS.val rfl rfl rfl ((by first | exact Ev.loadO 0 H rfl (agg_run rfl) (size_run rfl) (by first | assumption | rfl) rfl | exact Ev.loadO 1 H rfl (agg_run rfl) (size_run rfl) (by first | assumption | rfl) rfl | exact Ev.loadO 2 H rfl (agg_run rfl) (size_run rfl) (by first | assumption | rfl) rfl | exact Ev.loadO 3 H rfl (agg_run rfl) (size_run rfl) (by first | assumption | rfl) rfl | exact Ev.loadO 4 H rfl (agg_run rfl) (size_run rfl) (by first | assumption | rfl) rfl | exact Ev.loadO 5 H rfl (agg_run rfl) (size_run rfl) (by first | assumption | rfl) rfl | exact Ev.loadO 6 H rfl (agg_run rfl) (size_run rfl) (by first | assumption | rfl) rfl | (change Ev _ _ _ _ (Op.load 42 (Operand.tmp 5)) _; fail))) ?_
    refine OPS.call (d := some 79) rfl rfl rfl (EvC.func (fun_run rfl)) (parked σ.sp[j] _) ?_
    rintro _ w ⟨rfl, hb⟩
    refine ⟨_, rfl, ?_⟩
    replace H := H.toBelow hb; clear hb
    refine OPS.val rfl rfl rfl (Ev.not rfl) ?_
    refine OPS.val rfl rfl rfl (Ev.asB rfl) ?_
    refine OPS.nil ?_
    refine WP.cond rfl (fun hc24 => ?_) (fun hc24 => ?_)
    · refine WP.seq ?_
      refine WP.region ?_
      refine OPS.val rfl rfl rfl (Ev.asI rfl) ?_
      refine OPS.nil ?_
      refine WP.ret ⟨_, rfl, ?_⟩
      have hk : x.k = 4 := by simpa using hc8
      have hp : prk σ.sp[j] = false := by simpa using hc24
      have hv : chkS l.f σ x = 23 := by rw [chk4s hk ho6, hspt, if_pos hp]
      exact ⟨by rw [hv]; rfl, H.below⟩
    refine WP.skip ?_
    refine WP.seq ?_
    refine WP.region ?_
    refine OPS.val rfl rfl rfl (Ev.mvF rfl) ?_
    refine OPS.val rfl rfl rfl (Ev.mvP rfl) ?_
    refine OPS.val rfl rfl rfl ((by first | exact Ev.nilCheckP rfl | exact Ev.nilCheckF rfl)) ?_
    refine OPS.val rfl rfl rfl (Ev.fieldAddr (fld_run rfl) rfl) ?_
    refine OPS.val rfl rfl rfl (Ev.load1 (agg_run rfl) rfl (by first | exact H.ldL 0 rfl _ rfl | exact H.ldL 1 rfl _ rfl | exact H.ldL 2 rfl _ rfl | exact H.ldL 3 rfl _ rfl | exact H.ldL 4 rfl _ rfl | exact H.ldL 5 rfl _ rfl | exact H.ldL 6 rfl _ rfl | exact H.ldL 7 rfl _ rfl | exact H.ld0 (by assumption) | assumption | exact H.ldS (by assumption) (by assumption))) ?_
    refine OPS.call (d := some 86) rfl rfl rfl (EvC.clos rfl (fun_run (by first | rfl | assumption))) (refused σ.sp[b6].pa 12 _) ?_
    rintro _ w ⟨rfl, hb⟩
    refine ⟨_, rfl, ?_⟩
    replace H := H.toBelow hb; clear hb
    refine OPS.val rfl rfl rfl (Ev.asI rfl) ?_
    refine OPS.nil ?_
    refine WP.ret ⟨_, rfl, ?_⟩
    have hk : x.k = 4 := by simpa using hc8
    have hp : prk σ.sp[j] = true := by simpa using hc24
    have hv : chkS l.f σ x = if σ.sp[b6].pa = true then 12 else 0 := by rw [chk4s hk ho6, hspt, if_neg (by simp [hp])]
    exact ⟨by rw [hv]; rfl, H.below⟩
  refine WP.skip ?_
  refine WP.seq ?_
  refine WP.seq ?_
  refine WP.seq ?_
  refine WP.region ?_
  refine OPS.val rfl rfl rfl (Ev.eql rfl rfl) ?_
  refine OPS.val rfl rfl rfl (Ev.asB rfl) ?_
  refine OPS.nil ?_
  refine WP.cond rfl (fun hc9 => ?_) (fun hc9 => ?_)
  · refine WP.skip ?_
    refine WP.cond rfl (fun hc9 => ?_) (fun hc9 => ?_)
    · refine WP.exit ?_
      refine XB.miss rfl ?_
      refine XB.miss rfl ?_
      refine XB.miss rfl ?_
      refine XB.miss rfl ?_
      refine XB.hit ?_
      refine WP.seq ?_
      refine WP.seq ?_
      refine WP.seq ?_
      refine WP.region ?_
      refine OPS.val rfl rfl rfl (Ev.fieldAddr (fld_run rfl) rfl) ?_
      refine OPS.val rfl rfl rfl (Ev.load1 (agg_run rfl) rfl (by first | exact H.ldL 0 rfl _ rfl | exact H.ldL 1 rfl _ rfl | exact H.ldL 2 rfl _ rfl | exact H.ldL 3 rfl _ rfl | exact H.ldL 4 rfl _ rfl | exact H.ldL 5 rfl _ rfl | exact H.ldL 6 rfl _ rfl | exact H.ldL 7 rfl _ rfl | exact H.ld0 (by assumption) | assumption | exact H.ldS (by assumption) (by assumption))) ?_
      refine OPS.val rfl rfl rfl (Ev.neq rfl rfl) ?_
      refine OPS.nil ?_
      refine WP.cond rfl (fun hc27 => ?_) (fun hc27 => ?_)
      · refine WP.seq ?_
        refine WP.region ?_
        refine OPS.val rfl rfl rfl (Ev.asI rfl) ?_
        refine OPS.nil ?_
        refine WP.ret ⟨_, rfl, ?_⟩
        have hw : σ.sp[j].wh ≠ 3 := by simpa using hc27
        have hv : chkS l.f σ x = 23 := by
          first
            | (have hk : x.k = 5 := by simpa using hc9
               rw [chk5 hk, hspt, if_pos hw])
            | (have hk : x.k = 6 := by simpa using hc10
               rw [chk6 hk, hspt, if_pos hw])
        exact ⟨by rw [hv]; rfl, H.below⟩
      refine WP.skip ?_
      refine WP.seq ?_
      refine WP.region ?_
      refine OPS.val rfl rfl rfl (Ev.mvF rfl) ?_
      refine OPS.val rfl rfl rfl (Ev.fieldAddr (fld_run rfl) rfl) ?_
      refine OPS.val rfl rfl rfl (Ev.load1 (agg_run rfl) rfl (by first | exact H.ldL 0 rfl _ rfl | exact H.ldL 1 rfl _ rfl | exact H.ldL 2 rfl _ rfl | exact H.ldL 3 rfl _ rfl | exact H.ldL 4 rfl _ rfl | exact H.ldL 5 rfl _ rfl | exact H.ldL 6 rfl _ rfl | exact H.ldL 7 rfl _ rfl | exact H.ld0 (by assumption) | assumption | exact H.ldS (by assumption) (by assumption))) ?_
      refine OPS.val rfl rfl rfl (Ev.fieldAddr (fld_run rfl) rfl) ?_
      refine OPS.val rfl rfl rfl (Ev.load1 (agg_run rfl) rfl (by first | exact H.ldL 0 rfl _ rfl | exact H.ldL 1 rfl _ rfl | exact H.ldL 2 rfl _ rfl | exact H.ldL 3 rfl _ rfl | exact H.ldL 4 rfl _ rfl | exact H.ldL 5 rfl _ rfl | exact H.ldL 6 rfl _ rfl | exact H.ldL 7 rfl _ rfl | exact H.ld0 (by assumption) | assumption | exact H.ldS (by assumption) (by assumption))) ?_
      refine OPS.val rfl rfl rfl (Ev.eql rfl rfl) ?_
      refine OPS.val rfl rfl rfl (Ev.eqlB Try.runUnderlying4 rfl rfl) ?_
      refine OPS.call (d := some 97) rfl rfl rfl (EvC.clos rfl (fun_run (by first | rfl | assumption))) (refused (decide (σ.sp[j].pa = decide (x.k = 5))) 12 _) ?_
      rintro _ w ⟨rfl, hb⟩
      refine ⟨_, rfl, ?_⟩
      replace H := H.toBelow hb; clear hb
      refine OPS.val rfl rfl rfl (Ev.asI rfl) ?_
      refine OPS.nil ?_
      refine WP.ret ⟨_, rfl, ?_⟩
      have hw : ¬ σ.sp[j].wh ≠ 3 := by simpa using hc27
      have hv : chkS l.f σ x = if decide (σ.sp[j].pa = decide (x.k = 5)) = true then 12 else 0 := by
        first
          | (have hk : x.k = 5 := by simpa using hc9
             rw [chk5 hk, hspt, if_neg hw]; simp)
          | (have hk : x.k = 6 := by simpa using hc10
             rw [chk6 hk, hspt, if_neg hw]; simp)
      exact ⟨by rw [hv]; rfl, H.below⟩
    refine WP.skip ?_
    refine WP.seq ?_
    refine WP.seq ?_
    refine WP.region ?_
    refine OPS.val rfl rfl rfl (Ev.eql rfl rfl) ?_
    refine OPS.val rfl rfl rfl (Ev.asB rfl) ?_
    refine OPS.nil ?_
    refine WP.cond rfl (fun hc11 => ?_) (fun hc11 => ?_)
    · have hk7 : x.k = 7 := by simpa using hc11
      obtain ⟨hp0, hp1⟩ := hr.p hk7
      obtain ⟨p, hxp⟩ : ∃ p : Nat, x.p = p := ⟨x.p.toNat, by omega⟩
      have hpl : p < l.f.ts.length := by omega
      obtain ⟨bt, ot, hBt, hTc⟩ := h.fl.ts p hpl
      rw [hBt] at hT
      have hxp' : l.f.ts.getD x.p.toNat 0 = l.f.ts[p] := by rw [hxp, Int.toNat_natCast, List.getD_eq_getElem?_getD, List.getElem?_eq_getElem hpl]; rfl
      refine WP.exit ?_
      refine XB.miss rfl ?_
      refine XB.miss rfl ?_
      refine XB.miss rfl ?_
      refine XB.miss rfl ?_
      refine XB.miss rfl ?_
      refine XB.hit ?_
      refine WP.seq ?_
      refine WP.seq ?_
      refine WP.seq ?_
      refine WP.region ?_
      refine OPS.val rfl rfl rfl (Ev.fieldAddr (fld_run rfl) rfl) ?_
      refine OPS.val rfl rfl rfl (Ev.load1 (agg_run rfl) rfl (by first | exact H.ldL 0 rfl _ rfl | exact H.ldL 1 rfl _ rfl | exact H.ldL 2 rfl _ rfl | exact H.ldL 3 rfl _ rfl | exact H.ldL 4 rfl _ rfl | exact H.ldL 5 rfl _ rfl | exact H.ldL 6 rfl _ rfl | exact H.ldL 7 rfl _ rfl | exact H.ld0 (by assumption) | assumption | exact H.ldS (by assumption) (by assumption))) ?_
      refine OPS.val rfl rfl rfl (Ev.eql rfl rfl) ?_
      refine OPS.val rfl rfl rfl (Ev.mvB rfl) ?_
      refine OPS.gval rfl rfl rfl rfl rfl (fun hg => Ev.fieldAddr (fld_run rfl) (by first | rfl | exact gvE hg rfl)) ?_
      refine OPS.gval rfl rfl rfl rfl rfl (fun hg => Ev.load1 (agg_run rfl) (by first | rfl | exact gvE hg rfl) (by first | exact H.ldL 0 rfl _ rfl | exact H.ldL 1 rfl _ rfl | exact H.ldL 2 rfl _ rfl | exact H.ldL 3 rfl _ rfl | exact H.ldL 4 rfl _ rfl | exact H.ldL 5 rfl _ rfl | exact H.ldL 6 rfl _ rfl | exact H.ldL 7 rfl _ rfl | exact H.ld0 (by assumption) | assumption | exact H.ldS (by assumption) (by assumption))) ?_
      refine OPS.gval rfl rfl rfl rfl rfl (fun hg => Ev.eql (by first | rfl | exact gvE hg rfl) (by first | rfl | exact gvE hg rfl)) ?_
      refine OPS.val rfl rfl rfl ((by first | exact Ev.pickOr rfl rfl rfl | exact Ev.pickAnd rfl rfl rfl)) ?_
      refine OPS.nil ?_
      refine WP.cond rfl (fun hc30 => ?_) (fun hc30 => ?_)
      · refine WP.seq ?_
        refine WP.region ?_
        refine OPS.val rfl rfl rfl (Ev.asI rfl) ?_
        refine OPS.nil ?_
        refine WP.ret ⟨_, rfl, ?_⟩
        have hv : chkS l.f σ x = 23 := by rw [chk7 hk7, hspt, if_pos hc30]
        exact ⟨by rw [hv]; rfl, H.below⟩
      refine WP.skip ?_
      refine WP.seq ?_
      refine WP.rquiet mixed (by kernel_rfl) H ?_
      clear H; intro w hbw32 H
      refine OPS.val rfl rfl rfl (Ev.mvF rfl) ?_
      refine OPS.val rfl rfl rfl (Ev.mvP rfl) ?_
      refine OPS.val rfl rfl rfl (Ev.fieldAddr (fld_run rfl) rfl) ?_
      refine OPS.val rfl rfl rfl (Ev.load1 (agg_run rfl) rfl (by first | exact H.ldL 0 rfl _ rfl | exact H.ldL 1 rfl _ rfl | exact H.ldL 2 rfl _ rfl | exact H.ldL 3 rfl _ rfl | exact H.ldL 4 rfl _ rfl | exact H.ldL 5 rfl _ rfl | exact H.ldL 6 rfl _ rfl | exact H.ldL 7 rfl _ rfl | exact H.ld0 (by assumption) | assumption | exact H.ldS (by assumption) (by assumption))) ?_
      refine OPS.callq rfl rfl rfl (EvC.func (fun_run rfl)) (fun w2 hb2 => countS l σ tg 4 x.p _ ((h.sh H).below hb2)) ?_
      refine OPS.val rfl rfl rfl (Ev.mvP rfl) ?_
      refine OPS.val rfl rfl rfl ((by first | exact Ev.nilCheckP rfl | exact Ev.nilCheckF rfl)) ?_
      refine OPS.val rfl rfl rfl (Ev.fieldAddr (fld_run rfl) rfl) ?_
      refine OPS.val rfl rfl rfl (Ev.fieldAddr (fld_run rfl) rfl) ?_
      refine OPS.val rfl rfl rfl (Ev.load1 (agg_run rfl) rfl (by first | exact H.ldL 0 rfl _ rfl | exact H.ldL 1 rfl _ rfl | exact H.ldL 2 rfl _ rfl | exact H.ldL 3 rfl _ rfl | exact H.ldL 4 rfl _ rfl | exact H.ldL 5 rfl _ rfl | exact H.ldL 6 rfl _ rfl | exact H.ldL 7 rfl _ rfl | exact H.ld0 (by assumption) | assumption | exact H.ldS (by assumption) (by assumption))) ?_
      refine OPS.val rfl rfl rfl (Ev.fieldAddr (fld_run rfl) rfl) ?_
      refine OPS.val rfl rfl rfl (Ev.load1 (agg_run rfl) rfl (by first | exact H.ldL 0 rfl _ rfl | exact H.ldL 1 rfl _ rfl | exact H.ldL 2 rfl _ rfl | exact H.ldL 3 rfl _ rfl | exact H.ldL 4 rfl _ rfl | exact H.ldL 5 rfl _ rfl | exact H.ldL 6 rfl _ rfl | exact H.ldL 7 rfl _ rfl | exact H.ld0 (by assumption) | assumption | exact H.ldS (by assumption) (by assumption))) ?_
      refine OPS.val rfl rfl rfl (Ev.indexAddr1 (j := p) (el_run rfl) (size_run rfl) rfl rfl hxp hpl) ?_
      refine OPS.val rfl rfl rfl (Ev.load1 (agg_run rfl) rfl (by first | exact H.ldL 0 rfl _ rfl | exact H.ldL 1 rfl _ rfl | exact H.ldL 2 rfl _ rfl | exact H.ldL 3 rfl _ rfl | exact H.ldL 4 rfl _ rfl | exact H.ldL 5 rfl _ rfl | exact H.ldL 6 rfl _ rfl | exact H.ldL 7 rfl _ rfl | exact H.ld0 (by assumption) | assumption | exact H.ldS (by assumption) (by assumption))) ?_
      refine OPS.val rfl rfl rfl (Ev.geq rfl rfl) ?_
      refine OPS.callq rfl rfl rfl (EvC.clos rfl (fun_run (by first | rfl | assumption))) (fun w2 hb2 => by show Calls Try.prog 47 #[_, _] w2 _; exact refused _ _ w2) ?_
      refine OPS.val rfl rfl rfl (Ev.asI rfl) ?_
      refine OPS.nilq H ?_
      clear H; intro w hbx32 H
      refine WP.ret ⟨_, rfl, ?_⟩
      have hv : chkS l.f σ x = if decide (l.f.ts[p] ≤ (cntP 4 x.p σ.sp : Int)) = true then 24 else 0 := by rw [chk7 hk7, hspt, if_neg (by rw [hc30]; simp), hxp']; simp
      exact ⟨by rw [hv]; rfl, H.below⟩
    refine WP.skip ?_
    refine WP.seq ?_
    refine WP.seq ?_
    refine WP.region ?_
    refine OPS.val rfl rfl rfl (Ev.eql rfl rfl) ?_
    refine OPS.val rfl rfl rfl (Ev.asB rfl) ?_
    refine OPS.nil ?_
    refine WP.cond rfl (fun hc12 => ?_) (fun hc12 => ?_)
    · refine WP.exit ?_
      refine XB.miss rfl ?_
      refine XB.miss rfl ?_
      refine XB.miss rfl ?_
      refine XB.miss rfl ?_
      refine XB.miss rfl ?_
      refine XB.miss rfl ?_
      refine XB.hit ?_
      refine WP.seq ?_
      refine WP.seq ?_
      refine WP.region ?_
      refine OPS.val rfl rfl rfl (Ev.mvF rfl) ?_
      refine OPS.val rfl rfl rfl (Ev.fieldAddr (fld_run rfl) rfl) ?_
      refine OPS.val rfl rfl rfl (Ev.load1 (agg_run rfl) rfl (by first | exact H.ldL 0 rfl _ rfl | exact H.ldL 1 rfl _ rfl | exact H.ldL 2 rfl _ rfl | exact H.ldL 3 rfl _ rfl | exact H.ldL 4 rfl _ rfl | exact H.ldL 5 rfl _ rfl | exact H.ldL 6 rfl _ rfl | exact H.ldL 7 rfl _ rfl | exact H.ld0 (by assumption) | assumption | exact H.ldS (by assumption) (by assumption))) ?_
      refine OPS.val rfl rfl rfl (Ev.eql rfl rfl) ?_
      refine OPS.val rfl rfl rfl (Ev.mvB rfl) ?_
      refine OPS.gval rfl rfl rfl rfl rfl (fun hg => Ev.fieldAddr (fld_run rfl) (by first | rfl | exact gvE hg rfl)) ?_
      refine OPS.gval rfl rfl rfl rfl rfl (fun hg => Ev.load1 (agg_run rfl) (by first | rfl | exact gvE hg rfl) (by first | exact H.ldL 0 rfl _ rfl | exact H.ldL 1 rfl _ rfl | exact H.ldL 2 rfl _ rfl | exact H.ldL 3 rfl _ rfl | exact H.ldL 4 rfl _ rfl | exact H.ldL 5 rfl _ rfl | exact H.ldL 6 rfl _ rfl | exact H.ldL 7 rfl _ rfl | exact H.ld0 (by assumption) | assumption | exact H.ldS (by assumption) (by assumption))) ?_
      refine OPS.gval rfl rfl rfl rfl rfl (fun hg => Ev.eql (by first | rfl | exact gvE hg rfl) (by first | rfl | exact gvE hg rfl)) ?_
      refine OPS.val rfl rfl rfl ((by first | exact Ev.pickOr rfl rfl rfl | exact Ev.pickAnd rfl rfl rfl)) ?_
      refine OPS.call (d := some 131) rfl rfl rfl (EvC.clos rfl (fun_run (by first | rfl | assumption))) (refused (decide (σ.sp[j].wh = 3) || decide (σ.sp[j].wh = 5)) 23 _) ?_
      rintro _ w ⟨rfl, hb⟩
      refine ⟨_, rfl, ?_⟩
      replace H := H.toBelow hb; clear hb
      refine OPS.val rfl rfl rfl (Ev.asI rfl) ?_
      refine OPS.nil ?_
      refine WP.ret ⟨_, rfl, ?_⟩
      have hk : x.k = 8 := by simpa using hc12
      have hv : chkS l.f σ x = if (decide (σ.sp[j].wh = 3) || decide (σ.sp[j].wh = 5)) = true then 23 else 0 := by rw [chk8 hk, hspt]
      exact ⟨by rw [hv]; rfl, H.below⟩
    refine WP.skip ?_
    refine WP.seq ?_
    refine WP.region ?_
    refine OPS.val rfl rfl rfl (Ev.eql rfl rfl) ?_
    refine OPS.val rfl rfl rfl (Ev.asB rfl) ?_
    refine OPS.nil ?_
    refine WP.cond rfl (fun hc13 => ?_) (fun hc13 => ?_)
    · refine WP.exit ?_
      refine XB.miss rfl ?_
      refine XB.miss rfl ?_
      refine XB.miss rfl ?_
      refine XB.miss rfl ?_
      refine XB.miss rfl ?_
      refine XB.miss rfl ?_
      refine XB.miss rfl ?_
      refine XB.hit ?_
      refine WP.seq ?_
      refine WP.seq ?_
      refine WP.region ?_
      refine OPS.val rfl rfl rfl (Ev.mvF rfl) ?_
      refine OPS.val rfl rfl rfl (Ev.fieldAddr (fld_run rfl) rfl) ?_
      refine OPS.val rfl rfl rfl (Ev.load1 (agg_run rfl) rfl (by first | exact H.ldL 0 rfl _ rfl | exact H.ldL 1 rfl _ rfl | exact H.ldL 2 rfl _ rfl | exact H.ldL 3 rfl _ rfl | exact H.ldL 4 rfl _ rfl | exact H.ldL 5 rfl _ rfl | exact H.ldL 6 rfl _ rfl | exact H.ldL 7 rfl _ rfl | exact H.ld0 (by assumption) | assumption | exact H.ldS (by assumption) (by assumption))) ?_
      refine OPS.val rfl rfl rfl (Ev.eql rfl rfl) ?_
      refine OPS.val rfl rfl rfl (Ev.mvB rfl) ?_
      refine OPS.gval rfl rfl rfl rfl rfl (fun hg => Ev.fieldAddr (fld_run rfl) (by first | rfl | exact gvE hg rfl)) ?_
      refine OPS.gval rfl rfl rfl rfl rfl (fun hg => Ev.load1 (agg_run rfl) (by first | rfl | exact gvE hg rfl) (by first | exact H.ldL 0 rfl _ rfl | exact H.ldL 1 rfl _ rfl | exact H.ldL 2 rfl _ rfl | exact H.ldL 3 rfl _ rfl | exact H.ldL 4 rfl _ rfl | exact H.ldL 5 rfl _ rfl | exact H.ldL 6 rfl _ rfl | exact H.ldL 7 rfl _ rfl | exact H.ld0 (by assumption) | assumption | exact H.ldS (by assumption) (by assumption))) ?_
      refine OPS.gval rfl rfl rfl rfl rfl (fun hg => Ev.eql (by first | rfl | exact gvE hg rfl) (by first | rfl | exact gvE hg rfl)) ?_
      refine OPS.val rfl rfl rfl ((by first | exact Ev.pickOr rfl rfl rfl | exact Ev.pickAnd rfl rfl rfl)) ?_
      refine OPS.call (d := some 141) rfl rfl rfl (EvC.clos rfl (fun_run (by first | rfl | assumption))) (refused (decide (σ.sp[j].wh = 5) || decide (σ.sp[j].wh = 6)) 23 _) ?_
      rintro _ w ⟨rfl, hb⟩
      refine ⟨_, rfl, ?_⟩
      replace H := H.toBelow hb; clear hb
      refine OPS.val rfl rfl rfl (Ev.asI rfl) ?_
      refine OPS.nil ?_
      refine WP.ret ⟨_, rfl, ?_⟩
      have hk : x.k = 9 := by simpa using hc13
      have hv : chkS l.f σ x = if (decide (σ.sp[j].wh = 5) || decide (σ.sp[j].wh = 6)) = true then 23 else 0 := by rw [chk9 hk, hspt]
      exact ⟨by rw [hv]; rfl, H.below⟩
    refine WP.skip ?_
    refine WP.exit ?_
    refine XB.miss rfl ?_
    refine XB.miss rfl ?_
    refine XB.miss rfl ?_
    refine XB.miss rfl ?_
    refine XB.miss rfl ?_
    refine XB.miss rfl ?_
    refine XB.miss rfl ?_
    refine XB.miss rfl ?_
    refine XB.hit ?_
    refine WP.seq ?_
    refine WP.region ?_
    refine OPS.val rfl rfl rfl (Ev.asI rfl) ?_
    refine OPS.nil ?_
    refine WP.ret ⟨_, rfl, ?_⟩
    have k1 : ¬ x.k = 1 := by simpa using hc5
    have k2 : ¬ x.k = 2 := by simpa using hc6
    have k3 : ¬ x.k = 3 := by simpa using hc7
    have k4 : ¬ x.k = 4 := by simpa using hc8
    have k5 : ¬ x.k = 5 := by simpa using hc9
    have k6 : ¬ x.k = 6 := by first | simpa using hc10 | (exfalso; simp_all)
    have k7 : ¬ x.k = 7 := by simpa using hc11
    have k8 : ¬ x.k = 8 := by simpa using hc12
    have k9 : ¬ x.k = 9 := by simpa using hc13
    have hv : chkS l.f σ x = 0 := chk0 ⟨k1, k2, k3, k4, k5, k6, k7, k8, k9⟩
    exact ⟨by rw [hv]; rfl, H.below⟩
  refine WP.region ?_
  refine OPS.val rfl rfl rfl (Ev.eql rfl rfl) ?_
  refine OPS.val rfl rfl rfl (Ev.asB rfl) ?_
  refine OPS.nil ?_
  refine WP.cond rfl (fun hc10 => ?_) (fun hc10 => ?_)
  · refine WP.exit ?_
    refine XB.miss rfl ?_
    refine XB.miss rfl ?_
    refine XB.miss rfl ?_
    refine XB.miss rfl ?_
    refine XB.hit ?_
    refine WP.seq ?_
    refine WP.seq ?_
    refine WP.seq ?_
    refine WP.region ?_
    refine OPS.val rfl rfl rfl (Ev.fieldAddr (fld_run rfl) rfl) ?_
    refine OPS.val rfl rfl rfl (Ev.load1 (agg_run rfl) rfl (by first | exact H.ldL 0 rfl _ rfl | exact H.ldL 1 rfl _ rfl | exact H.ldL 2 rfl _ rfl | exact H.ldL 3 rfl _ rfl | exact H.ldL 4 rfl _ rfl | exact H.ldL 5 rfl _ rfl | exact H.ldL 6 rfl _ rfl | exact H.ldL 7 rfl _ rfl | exact H.ld0 (by assumption) | assumption | exact H.ldS (by assumption) (by assumption))) ?_
    refine OPS.val rfl rfl rfl (Ev.neq rfl rfl) ?_
    refine OPS.nil ?_
    refine WP.cond rfl (fun hc27 => ?_) (fun hc27 => ?_)
    · refine WP.seq ?_
      refine WP.region ?_
      refine OPS.val rfl rfl rfl (Ev.asI rfl) ?_
      refine OPS.nil ?_
      refine WP.ret ⟨_, rfl, ?_⟩
      have hw : σ.sp[j].wh ≠ 3 := by simpa using hc27
      have hv : chkS l.f σ x = 23 := by
        first
          | (have hk : x.k = 5 := by simpa using hc9
             rw [chk5 hk, hspt, if_pos hw])
          | (have hk : x.k = 6 := by simpa using hc10
             rw [chk6 hk, hspt, if_pos hw])
      exact ⟨by rw [hv]; rfl, H.below⟩
    refine WP.skip ?_
    refine WP.seq ?_
    refine WP.region ?_
    refine OPS.val rfl rfl rfl (Ev.mvF rfl) ?_
    refine OPS.val rfl rfl rfl (Ev.fieldAddr (fld_run rfl) rfl) ?_
    refine OPS.val rfl rfl rfl (Ev.load1 (agg_run rfl) rfl (by first | exact H.ldL 0 rfl _ rfl | exact H.ldL 1 rfl _ rfl | exact H.ldL 2 rfl _ rfl | exact H.ldL 3 rfl _ rfl | exact H.ldL 4 rfl _ rfl | exact H.ldL 5 rfl _ rfl | exact H.ldL 6 rfl _ rfl | exact H.ldL 7 rfl _ rfl | exact H.ld0 (by assumption) | assumption | exact H.ldS (by assumption) (by assumption))) ?_
    refine OPS.val rfl rfl rfl (Ev.fieldAddr (fld_run rfl) rfl) ?_
    refine OPS.val rfl rfl rfl (Ev.load1 (agg_run rfl) rfl (by first | exact H.ldL 0 rfl _ rfl | exact H.ldL 1 rfl _ rfl | exact H.ldL 2 rfl _ rfl | exact H.ldL 3 rfl _ rfl | exact H.ldL 4 rfl _ rfl | exact H.ldL 5 rfl _ rfl | exact H.ldL 6 rfl _ rfl | exact H.ldL 7 rfl _ rfl | exact H.ld0 (by assumption) | assumption | exact H.ldS (by assumption) (by assumption))) ?_
    refine OPS.val rfl rfl rfl (Ev.eql rfl rfl) ?_
    refine OPS.val rfl rfl rfl (Ev.eqlB Try.runUnderlying4 rfl rfl) ?_
    refine OPS.call (d := some 97) rfl rfl rfl (EvC.clos rfl (fun_run (by first | rfl | assumption))) (refused (decide (σ.sp[j].pa = decide (x.k = 5))) 12 _) ?_
    rintro _ w ⟨rfl, hb⟩
    refine ⟨_, rfl, ?_⟩
    replace H := H.toBelow hb; clear hb
    refine OPS.val rfl rfl rfl (Ev.asI rfl) ?_
    refine OPS.nil ?_
    refine WP.ret ⟨_, rfl, ?_⟩
    have hw : ¬ σ.sp[j].wh ≠ 3 := by simpa using hc27
    have hv : chkS l.f σ x = if decide (σ.sp[j].pa = decide (x.k = 5)) = true then 12 else 0 := by
      first
        | (have hk : x.k = 5 := by simpa using hc9
           rw [chk5 hk, hspt, if_neg hw]; simp)
        | (have hk : x.k = 6 := by simpa using hc10
           rw [chk6 hk, hspt, if_neg hw]; simp)
    exact ⟨by rw [hv]; rfl, H.below⟩
  refine WP.skip ?_
  refine WP.seq ?_
  refine WP.seq ?_
  refine WP.region ?_
  refine OPS.val rfl rfl rfl (Ev.eql rfl rfl) ?_
  refine OPS.val rfl rfl rfl (Ev.asB rfl) ?_
  refine OPS.nil ?_
  refine WP.cond rfl (fun hc11 => ?_) (fun hc11 => ?_)
  · have hk7 : x.k = 7 := by simpa using hc11
    obtain ⟨hp0, hp1⟩ := hr.p hk7
    obtain ⟨p, hxp⟩ : ∃ p : Nat, x.p = p := ⟨x.p.toNat, by omega⟩
    have hpl : p < l.f.ts.length := by omega
    obtain ⟨bt, ot, hBt, hTc⟩ := h.fl.ts p hpl
    rw [hBt] at hT
    have hxp' : l.f.ts.getD x.p.toNat 0 = l.f.ts[p] := by rw [hxp, Int.toNat_natCast, List.getD_eq_getElem?_getD, List.getElem?_eq_getElem hpl]; rfl
    refine WP.exit ?_
    refine XB.miss rfl ?_
    refine XB.miss rfl ?_
    refine XB.miss rfl ?_
    refine XB.miss rfl ?_
    refine XB.miss rfl ?_
    refine XB.hit ?_
    refine WP.seq ?_
    refine WP.seq ?_
    refine WP.seq ?_
    refine WP.region ?_
    refine OPS.val rfl rfl rfl (Ev.fieldAddr (fld_run rfl) rfl) ?_
    refine OPS.val rfl rfl rfl (Ev.load1 (agg_run rfl) rfl (by first | exact H.ldL 0 rfl _ rfl | exact H.ldL 1 rfl _ rfl | exact H.ldL 2 rfl _ rfl | exact H.ldL 3 rfl _ rfl | exact H.ldL 4 rfl _ rfl | exact H.ldL 5 rfl _ rfl | exact H.ldL 6 rfl _ rfl | exact H.ldL 7 rfl _ rfl | exact H.ld0 (by assumption) | assumption | exact H.ldS (by assumption) (by assumption))) ?_
    refine OPS.val rfl rfl rfl (Ev.eql rfl rfl) ?_
    refine OPS.val rfl rfl rfl (Ev.mvB rfl) ?_
    refine OPS.gval rfl rfl rfl rfl rfl (fun hg => Ev.fieldAddr (fld_run rfl) (by first | rfl | exact gvE hg rfl)) ?_
    refine OPS.gval rfl rfl rfl rfl rfl (fun hg => Ev.load1 (agg_run rfl) (by first | rfl | exact gvE hg rfl) (by first | exact H.ldL 0 rfl _ rfl | exact H.ldL 1 rfl _ rfl | exact H.ldL 2 rfl _ rfl | exact H.ldL 3 rfl _ rfl | exact H.ldL 4 rfl _ rfl | exact H.ldL 5 rfl _ rfl | exact H.ldL 6 rfl _ rfl | exact H.ldL 7 rfl _ rfl | exact H.ld0 (by assumption) | assumption | exact H.ldS (by assumption) (by assumption))) ?_
    refine OPS.gval rfl rfl rfl rfl rfl (fun hg => Ev.eql (by first | rfl | exact gvE hg rfl) (by first | rfl | exact gvE hg rfl)) ?_
    refine OPS.val rfl rfl rfl ((by first | exact Ev.pickOr rfl rfl rfl | exact Ev.pickAnd rfl rfl rfl)) ?_
    refine OPS.nil ?_
    refine WP.cond rfl (fun hc30 => ?_) (fun hc30 => ?_)
    · refine WP.seq ?_
      refine WP.region ?_
      refine OPS.val rfl rfl rfl (Ev.asI rfl) ?_
      refine OPS.nil ?_
      refine WP.ret ⟨_, rfl, ?_⟩
      have hv : chkS l.f σ x = 23 := by rw [chk7 hk7, hspt, if_pos hc30]
      exact ⟨by rw [hv]; rfl, H.below⟩
    refine WP.skip ?_
    refine WP.seq ?_
    refine WP.rquiet mixed (by kernel_rfl) H ?_
    clear H; intro w hbw32 H
    refine OPS.val rfl rfl rfl (Ev.mvF rfl) ?_
    refine OPS.val rfl rfl rfl (Ev.mvP rfl) ?_
    refine OPS.val rfl rfl rfl (Ev.fieldAddr (fld_run rfl) rfl) ?_
    refine OPS.val rfl rfl rfl (Ev.load1 (agg_run rfl) rfl (by first | exact H.ldL 0 rfl _ rfl | exact H.ldL 1 rfl _ rfl | exact H.ldL 2 rfl _ rfl | exact H.ldL 3 rfl _ rfl | exact H.ldL 4 rfl _ rfl | exact H.ldL 5 rfl _ rfl | exact H.ldL 6 rfl _ rfl | exact H.ldL 7 rfl _ rfl | exact H.ld0 (by assumption) | assumption | exact H.ldS (by assumption) (by assumption))) ?_
    refine OPS.callq rfl rfl rfl (EvC.func (fun_run rfl)) (fun w2 hb2 => countS l σ tg 4 x.p _ ((h.sh H).below hb2)) ?_
    refine OPS.val rfl rfl rfl (Ev.mvP rfl) ?_
    refine OPS.val rfl rfl rfl ((by first | exact Ev.nilCheckP rfl | exact Ev.nilCheckF rfl)) ?_
    refine OPS.val rfl rfl rfl (Ev.fieldAddr (fld_run rfl) rfl) ?_
    refine OPS.val rfl rfl rfl (Ev.fieldAddr (fld_run rfl) rfl) ?_
    refine OPS.val rfl rfl rfl (Ev.load1 (agg_run rfl) rfl (by first | exact H.ldL 0 rfl _ rfl | exact H.ldL 1 rfl _ rfl | exact H.ldL 2 rfl _ rfl | exact H.ldL 3 rfl _ rfl | exact H.ldL 4 rfl _ rfl | exact H.ldL 5 rfl _ rfl | exact H.ldL 6 rfl _ rfl | exact H.ldL 7 rfl _ rfl | exact H.ld0 (by assumption) | assumption | exact H.ldS (by assumption) (by assumption))) ?_
    refine OPS.val rfl rfl rfl (Ev.fieldAddr (fld_run rfl) rfl) ?_
    refine OPS.val rfl rfl rfl (Ev.load1 (agg_run rfl) rfl (by first | exact H.ldL 0 rfl _ rfl | exact H.ldL 1 rfl _ rfl | exact H.ldL 2 rfl _ rfl | exact H.ldL 3 rfl _ rfl | exact H.ldL 4 rfl _ rfl | exact H.ldL 5 rfl _ rfl | exact H.ldL 6 rfl _ rfl | exact H.ldL 7 rfl _ rfl | exact H.ld0 (by assumption) | assumption | exact H.ldS (by assumption) (by assumption))) ?_
    refine OPS.val rfl rfl rfl (Ev.indexAddr1 (j := p) (el_run rfl) (size_run rfl) rfl rfl hxp hpl) ?_
    refine OPS.val rfl rfl rfl (Ev.load1 (agg_run rfl) rfl (by first | exact H.ldL 0 rfl _ rfl | exact H.ldL 1 rfl _ rfl | exact H.ldL 2 rfl _ rfl | exact H.ldL 3 rfl _ rfl | exact H.ldL 4 rfl _ rfl | exact H.ldL 5 rfl _ rfl | exact H.ldL 6 rfl _ rfl | exact H.ldL 7 rfl _ rfl | exact H.ld0 (by assumption) | assumption | exact H.ldS (by assumption) (by assumption))) ?_
    refine OPS.val rfl rfl rfl (Ev.geq rfl rfl) ?_
    refine OPS.callq rfl rfl rfl (EvC.clos rfl (fun_run (by first | rfl | assumption))) (fun w2 hb2 => by show Calls Try.prog 47 #[_, _] w2 _; exact refused _ _ w2) ?_
    refine OPS.val rfl rfl rfl (Ev.asI rfl) ?_
    refine OPS.nilq H ?_
    clear H; intro w hbx32 H
    refine WP.ret ⟨_, rfl, ?_⟩
    have hv : chkS l.f σ x = if decide (l.f.ts[p] ≤ (cntP 4 x.p σ.sp : Int)) = true then 24 else 0 := by rw [chk7 hk7, hspt, if_neg (by rw [hc30]; simp), hxp']; simp
    exact ⟨by rw [hv]; rfl, H.below⟩
  refine WP.skip ?_
  refine WP.seq ?_
  refine WP.seq ?_
  refine WP.region ?_
  refine OPS.val rfl rfl rfl (Ev.eql rfl rfl) ?_
  refine OPS.val rfl rfl rfl (Ev.asB rfl) ?_
  refine OPS.nil ?_
  refine WP.cond rfl (fun hc12 => ?_) (fun hc12 => ?_)
  · refine WP.exit ?_
    refine XB.miss rfl ?_
    refine XB.miss rfl ?_
    refine XB.miss rfl ?_
    refine XB.miss rfl ?_
    refine XB.miss rfl ?_
    refine XB.miss rfl ?_
    refine XB.hit ?_
    refine WP.seq ?_
    refine WP.seq ?_
    refine WP.region ?_
    refine OPS.val rfl rfl rfl (Ev.mvF rfl) ?_
    refine OPS.val rfl rfl rfl (Ev.fieldAddr (fld_run rfl) rfl) ?_
    refine OPS.val rfl rfl rfl (Ev.load1 (agg_run rfl) rfl (by first | exact H.ldL 0 rfl _ rfl | exact H.ldL 1 rfl _ rfl | exact H.ldL 2 rfl _ rfl | exact H.ldL 3 rfl _ rfl | exact H.ldL 4 rfl _ rfl | exact H.ldL 5 rfl _ rfl | exact H.ldL 6 rfl _ rfl | exact H.ldL 7 rfl _ rfl | exact H.ld0 (by assumption) | assumption | exact H.ldS (by assumption) (by assumption))) ?_
    refine OPS.val rfl rfl rfl (Ev.eql rfl rfl) ?_
    refine OPS.val rfl rfl rfl (Ev.mvB rfl) ?_
    refine OPS.gval rfl rfl rfl rfl rfl (fun hg => Ev.fieldAddr (fld_run rfl) (by first | rfl | exact gvE hg rfl)) ?_
    refine OPS.gval rfl rfl rfl rfl rfl (fun hg => Ev.load1 (agg_run rfl) (by first | rfl | exact gvE hg rfl) (by first | exact H.ldL 0 rfl _ rfl | exact H.ldL 1 rfl _ rfl | exact H.ldL 2 rfl _ rfl | exact H.ldL 3 rfl _ rfl | exact H.ldL 4 rfl _ rfl | exact H.ldL 5 rfl _ rfl | exact H.ldL 6 rfl _ rfl | exact H.ldL 7 rfl _ rfl | exact H.ld0 (by assumption) | assumption | exact H.ldS (by assumption) (by assumption))) ?_
    refine OPS.gval rfl rfl rfl rfl rfl (fun hg => Ev.eql (by first | rfl | exact gvE hg rfl) (by first | rfl | exact gvE hg rfl)) ?_
    refine OPS.val rfl rfl rfl ((by first | exact Ev.pickOr rfl rfl rfl | exact Ev.pickAnd rfl rfl rfl)) ?_
    refine OPS.call (d := some 131) rfl rfl rfl (EvC.clos rfl (fun_run (by first | rfl | assumption))) (refused (decide (σ.sp[j].wh = 3) || decide (σ.sp[j].wh = 5)) 23 _) ?_
    rintro _ w ⟨rfl, hb⟩
    refine ⟨_, rfl, ?_⟩
    replace H := H.toBelow hb; clear hb
    refine OPS.val rfl rfl rfl (Ev.asI rfl) ?_
    refine OPS.nil ?_
    refine WP.ret ⟨_, rfl, ?_⟩
    have hk : x.k = 8 := by simpa using hc12
    have hv : chkS l.f σ x = if (decide (σ.sp[j].wh = 3) || decide (σ.sp[j].wh = 5)) = true then 23 else 0 := by rw [chk8 hk, hspt]
    exact ⟨by rw [hv]; rfl, H.below⟩
  refine WP.skip ?_
  refine WP.seq ?_
  refine WP.region ?_
  refine OPS.val rfl rfl rfl (Ev.eql rfl rfl) ?_
  refine OPS.val rfl rfl rfl (Ev.asB rfl) ?_
  refine OPS.nil ?_
  refine WP.cond rfl (fun hc13 => ?_) (fun hc13 => ?_)
  · refine WP.exit ?_
    refine XB.miss rfl ?_
    refine XB.miss rfl ?_
    refine XB.miss rfl ?_
    refine XB.miss rfl ?_
    refine XB.miss rfl ?_
    refine XB.miss rfl ?_
    refine XB.miss rfl ?_
    refine XB.hit ?_
    refine WP.seq ?_
    refine WP.seq ?_
    refine WP.region ?_
    refine OPS.val rfl rfl rfl (Ev.mvF rfl) ?_
    refine OPS.val rfl rfl rfl (Ev.fieldAddr (fld_run rfl) rfl) ?_
    refine OPS.val rfl rfl rfl (Ev.load1 (agg_run rfl) rfl (by first | exact H.ldL 0 rfl _ rfl | exact H.ldL 1 rfl _ rfl | exact H.ldL 2 rfl _ rfl | exact H.ldL 3 rfl _ rfl | exact H.ldL 4 rfl _ rfl | exact H.ldL 5 rfl _ rfl | exact H.ldL 6 rfl _ rfl | exact H.ldL 7 rfl _ rfl | exact H.ld0 (by assumption) | assumption | exact H.ldS (by assumption) (by assumption))) ?_
    refine OPS.val rfl rfl rfl (Ev.eql rfl rfl) ?_
    refine OPS.val rfl rfl rfl (Ev.mvB rfl) ?_
    refine OPS.gval rfl rfl rfl rfl rfl (fun hg => Ev.fieldAddr (fld_run rfl) (by first | rfl | exact gvE hg rfl)) ?_
    refine OPS.gval rfl rfl rfl rfl rfl (fun hg => Ev.load1 (agg_run rfl) (by first | rfl | exact gvE hg rfl) (by first | exact H.ldL 0 rfl _ rfl | exact H.ldL 1 rfl _ rfl | exact H.ldL 2 rfl _ rfl | exact H.ldL 3 rfl _ rfl | exact H.ldL 4 rfl _ rfl | exact H.ldL 5 rfl _ rfl | exact H.ldL 6 rfl _ rfl | exact H.ldL 7 rfl _ rfl | exact H.ld0 (by assumption) | assumption | exact H.ldS (by assumption) (by assumption))) ?_
    refine OPS.gval rfl rfl rfl rfl rfl (fun hg => Ev.eql (by first | rfl | exact gvE hg rfl) (by first | rfl | exact gvE hg rfl)) ?_
    refine OPS.val rfl rfl rfl ((by first | exact Ev.pickOr rfl rfl rfl | exact Ev.pickAnd rfl rfl rfl)) ?_
    refine OPS.call (d := some 141) rfl rfl rfl (EvC.clos rfl (fun_run (by first | rfl | assumption))) (refused (decide (σ.sp[j].wh = 5) || decide (σ.sp[j].wh = 6)) 23 _) ?_
    rintro _ w ⟨rfl, hb⟩
    refine ⟨_, rfl, ?_⟩
    replace H := H.toBelow hb; clear hb
    refine OPS.val rfl rfl rfl (Ev.asI rfl) ?_
    refine OPS.nil ?_
    refine WP.ret ⟨_, rfl, ?_⟩
    have hk : x.k = 9 := by simpa using hc13
    have hv : chkS l.f σ x = if (decide (σ.sp[j].wh = 5) || decide (σ.sp[j].wh = 6)) = true then 23 else 0 := by rw [chk9 hk, hspt]
    exact ⟨by rw [hv]; rfl, H.below⟩
  refine WP.skip ?_
  refine WP.exit ?_
  refine XB.miss rfl ?_
  refine XB.miss rfl ?_
  refine XB.miss rfl ?_
  refine XB.miss rfl ?_
  refine XB.miss rfl ?_
  refine XB.miss rfl ?_
  refine XB.miss rfl ?_
  refine XB.miss rfl ?_
  refine XB.hit ?_
  refine WP.seq ?_
  refine WP.region ?_
  refine OPS.val rfl rfl rfl (Ev.asI rfl) ?_
  refine OPS.nil ?_
  refine WP.ret ⟨_, rfl, ?_⟩
  have k1 : ¬ x.k = 1 := by simpa using hc5
  have k2 : ¬ x.k = 2 := by simpa using hc6
  have k3 : ¬ x.k = 3 := by simpa using hc7
  have k4 : ¬ x.k = 4 := by simpa using hc8
  have k5 : ¬ x.k = 5 := by simpa using hc9
  have k6 : ¬ x.k = 6 := by first | simpa using hc10 | (exfalso; simp_all)
  have k7 : ¬ x.k = 7 := by simpa using hc11
  have k8 : ¬ x.k = 8 := by simpa using hc12
  have k9 : ¬ x.k = 9 := by simpa using hc13
  have hv : chkS l.f σ x = 0 := chk0 ⟨k1, k2, k3, k4, k5, k6, k7, k8, k9⟩
  exact ⟨by rw [hv]; rfl, H.below⟩
end Go.Proofs.Ytchjbjplddhknaa

/-
  Walks: leave.
-/
set_option linter.all false
namespace Go.Proofs.Ytchjbjplddhknaa
open Go Go.W Go.RowKit
open Go.Maps (Keyed int_keyed keyOf_int_mk)

theorem MapAt.key {P : Program} {k : TypeId} {w : World} {g : Nat} {m : List (Value × Value)} (h : MapAt P k w g m) {p : Value × Value} (hp : p ∈ m) : ∃ l, keyOf P k p.1 = some l := by
  obtain ⟨es, c, _, _, h3, rfl⟩ := h.ex
  obtain ⟨x, hx, rfl⟩ := List.mem_map.1 hp
  exact h3 x hx
theorem SH.cont {w0 wB w : World} {S0 : List Nat} {LB L : List Blk} (HB : SH w0 S0 wB LB) (H : SH wB (LB.map (·.g)) w L) : SH w0 S0 w L := by
  have h := SH.back (HB.drop (List.nil_sublist _)) H (fun g hg => ⟨by obtain ⟨b, hb, rfl⟩ := List.mem_map.1 hg; exact HB.may b hb, by simp⟩)
  rwa [List.append_nil] at h
theorem rowIn {w0 w : World} {S : List Nat} {L : List Blk} {g j : Nat} {T : TypeId} {l : List Spt} (H : SH w0 S w L) (i : Nat) (hi : L[i]? = some ⟨g, T, l.flatMap spC⟩) (hj : j < l.length) : cellsAt w g (0 + j * 4) (spC l[j]) := by
  obtain ⟨b, o, h1, h2⟩ := rowsOwn' (enc := spC) (sz := 4) (fun _ => rfl) H i hi j hj
  cases h1
  exact h2
section
variable {w w' w0 : World} {l : Loc} {σ : Sta} {tg tg' : Nat → Nat} {L : List Blk} {S : List Nat}
theorem Rep.flS (h : Rep w0 l σ tg) (H : SH w0 S w L) (hS : ∀ g ∈ S, l.g0 ≤ g) : FlAt w l.f l.A l.B := by
  have hA : l.f.ds ≠ [] → Off l.A S := fun hn b o he hm => by have := h.low b o (.inl ⟨he, hn⟩); have := hS b hm; omega
  have hB : l.f.ts ≠ [] → Off l.B S := fun hn b o he hm => by have := h.low b o (.inr ⟨he, hn⟩); have := hS b hm; omega
  refine ⟨?_, ?_, h.fl.dl, h.fl.tl⟩
  · by_cases hn : l.f.ds = []
    · rw [hn]; exact OnesAt.nil
    · exact h.fl.ds.shS (hA hn) H
  · by_cases hn : l.f.ts = []
    · rw [hn]; exact OnesAt.nil
    · exact h.fl.ts.shS (hB hn) H
theorem Rep.nSP (h : Rep w l σ tg) : l.gS ≠ l.gP := fun he => by have h1 := h.st; rw [he, h.sp] at h1; simp at h1
theorem Rep.nSO (h : Rep w l σ tg) : l.gS ≠ l.gO := fun he => by
  obtain ⟨m, hM, _⟩ := h.op
  obtain ⟨_, _, h1, _⟩ := hM.ex
  rw [← he, h.st] at h1; cases h1
theorem Rep.nPO (h : Rep w l σ tg) : l.gP ≠ l.gO := fun he => by
  obtain ⟨m, hM, _⟩ := h.op
  obtain ⟨_, _, h1, _⟩ := hM.ex
  rw [← he, h.sp] at h1; cases h1
theorem Rep.nPU (h : Rep w l σ tg) : l.gP ≠ l.gU := fun he => by
  obtain ⟨m, hM, _⟩ := h.us
  obtain ⟨_, _, h1, _⟩ := hM.ex
  rw [← he, h.sp] at h1; cases h1
theorem Rep.nSU (h : Rep w l σ tg) : l.gS ≠ l.gU := fun he => by
  obtain ⟨m, hM, _⟩ := h.us
  obtain ⟨_, _, h1, _⟩ := hM.ex
  rw [← he, h.st] at h1; cases h1
theorem Rep.nT (h : Rep w l σ tg) {b : Nat} (hb : b < σ.sp.length) (hw : σ.sp[b].wh = 3) : tg b ≠ l.gS ∧ tg b ≠ l.gP ∧ tg b ≠ l.gO ∧ tg b ≠ l.gU := by
  have h0 := h.tr b hb hw
  refine ⟨fun he => ?_, fun he => ?_, fun he => ?_, fun he => ?_⟩
  · rw [he, h.st] at h0; simp at h0
  · rw [he, h.sp] at h0; simp at h0
  · obtain ⟨m, hM, _⟩ := h.op
    obtain ⟨_, _, h1, _⟩ := hM.ex
    rw [he, h1] at h0; cases h0
  · obtain ⟨m, hM, _⟩ := h.us
    obtain ⟨_, _, h1, _⟩ := hM.ex
    rw [he, h1] at h0; cases h0
/-- the state behind a change -/
theorem Rep.next (h : Rep w0 l σ tg) (H : SH w0 S w L) (hS : ∀ g ∈ S, l.g0 ≤ g) (hgS : l.gS ∉ S) {sp' : List Spt} {us' : List Int} (hlen : sp'.length = σ.sp.length) (hsp : w.heap[l.gP]? = some (.cells (sp'.flatMap spC).toArray 42 (0, 0)))
    (hop : ∃ m, MapAt Try.prog 3 w l.gO m ∧ ∀ p, p ∈ m ↔ ∃ b, ∃ h : b < sp'.length, sp'[b].wh = 3 ∧ p = (I sp'[b].ri, .pointer (some ⟨tg' b, 0, none⟩)))
    (hus : ∃ m, MapAt Try.prog 3 w l.gU m ∧ ∀ p, p ∈ m ↔ ∃ i ∈ us', p = (I i, .bool true))
    (htr : ∀ b, ∀ h : b < sp'.length, sp'[b].wh = 3 → w.heap[tg' b]? = some (.cells #[I sp'[b].who, I b, .bool sp'[b].pa] 104 (0, 0)))
    (hfr : ∀ b, ∀ h : b < sp'.length, sp'[b].wh = 3 → l.g0 ≤ tg' b) : Rep w l ⟨sp', us'⟩ tg' := by
  refine ⟨h.flS H hS, ?_, hsp, hop, hus, htr, by show (sp'.length : Int) = _; rw [hlen]; exact h.len, by show sp'.length ≤ 128; rw [hlen]; exact h.small, h.low, h.nOU, ⟨h.fr.1, h.fr.2.1, h.fr.2.2.1, h.fr.2.2.2.1, hfr⟩⟩
  show w.heap[l.gS]? = some (.cells (l.cs sp'.length).toArray 70 (0, 0))
  rw [hlen, H.low l.gS (Array.getElem?_eq_some_iff.1 h.st).1 hgS]
  exact h.st
theorem Rep.set (h : Rep w0 l σ tg) {j : Nat} (hj : j < σ.sp.length) {s : Spt} (hs : s.wh ≠ 3) {a b : Blk} (HF : SH w0 [l.gP, l.gO] w [a, b, ⟨l.gP, 42, (σ.sp.set j s).flatMap spC⟩]) {m' : List (Value × Value)} (hM : MapAt Try.prog 3 w l.gO m')
    (hm' : ∀ p, p ∈ m' ↔ ∃ b, ∃ h : b < σ.sp.length, b ≠ j ∧ σ.sp[b].wh = 3 ∧ p = (I σ.sp[b].ri, .pointer (some ⟨tg b, 0, none⟩))) : Rep w l ⟨σ.sp.set j s, σ.us⟩ tg := by
  have key : ∀ b, ∀ hb : b < (σ.sp.set j s).length, (σ.sp.set j s)[b].wh = 3 → ∃ hb' : b < σ.sp.length, b ≠ j ∧ (σ.sp.set j s)[b] = σ.sp[b] := fun b hb hw => by
    have hb' : b < σ.sp.length := by simpa using hb
    by_cases he : b = j
    · subst he; rw [List.getElem_set_self] at hw; exact absurd hw hs
    · exact ⟨hb', he, List.getElem_set_ne (Ne.symm he) _⟩
  refine h.next HF (by simpa using ⟨h.fr.2.1, h.fr.2.2.1⟩) (by simpa using ⟨h.nSP, h.nSO⟩) (by simp) (HF.own ⟨l.gP, 42, (σ.sp.set j s).flatMap spC⟩ (by simp)) ⟨m', hM, fun p => (hm' p).trans ⟨?_, ?_⟩⟩ ?_ ?_ ?_
  · rintro ⟨b, hb, hbj, hwb, rfl⟩
    have he : (σ.sp.set j s)[b]'(by simpa using hb) = σ.sp[b] := List.getElem_set_ne (Ne.symm hbj) _
    exact ⟨b, by simpa using hb, by rw [he]; exact hwb, by rw [he]⟩
  · rintro ⟨b, hb, hwb, rfl⟩
    obtain ⟨hb', hbj, he⟩ := key b hb hwb
    rw [he] at hwb
    exact ⟨b, hb', hbj, hwb, by rw [he]⟩
  · obtain ⟨mu, hMu, hmu⟩ := h.us
    exact ⟨mu, hMu.sh HF (by simpa using ⟨h.nPU.symm, h.nOU.symm⟩), hmu⟩
  · intro b hb hw
    obtain ⟨hb', hbj, he⟩ := key b hb hw
    rw [he] at hw ⊢
    have ht := h.tr b hb' hw
    rw [HF.low (tg b) (Array.getElem?_eq_some_iff.1 ht).1 (by have := h.nT hb' hw; simpa using ⟨this.2.1, this.2.2.1⟩)]
    exact ht
  · intro b hb hw
    obtain ⟨hb', hbj, he⟩ := key b hb hw
    rw [he] at hw
    exact h.fr.2.2.2.2 b hb' hw
end
theorem leaveS (l : Loc) (σ : Sta) (tg : Nat → Nat) (j : Nat) (hj : j < σ.sp.length) (s : Spt) (hs : s.wh ≠ 3) (w0 : World) (h : Rep w0 l σ tg) :
    Calls Try.prog 51 #[.pointer (some ⟨l.gS, 0, none⟩), I j, .agg (spC s).toArray] w0 fun e w' => e = .returned (.tuple #[]) ∧ SH w0 [l.gP, l.gO] w' [] ∧ Rep w' l ⟨σ.sp.set j s, σ.us⟩ tg := by
  have H := SH.of1 h.sp
  have hP := h.cell (k := 5) rfl
  have hO := h.cell (k := 6) rfl
  have n1 : l.gS ∉ [l.gP] := by simpa using h.nSP
  have n2 : l.gO ∉ [l.gP] := by simpa using h.nPO.symm
  obtain ⟨m, hM, hm⟩ := h.op
  have hsm := h.small
  refine Calls.ofWP Try.func51 rfl Try.results51 Try.ntmps51 rfl ?_
  refine WP.seq ?_
  refine WP.region ?_
  refine OPS.box rfl rfl rfl rfl (cA rfl) H ?_
  clear H; intro g5 w H
  refine OPS.nil ?_
  refine WP.seq ?_
  refine WP.seq ?_
  refine WP.region ?_
  refine OPS.val rfl rfl rfl (Ev.mvP rfl) ?_
  refine OPS.val rfl rfl rfl ((by first | exact Ev.nilCheckP rfl | exact Ev.nilCheckF rfl)) ?_
  refine OPS.val rfl rfl rfl (Ev.fieldAddr (fld_run rfl) rfl) ?_
  refine OPS.val rfl rfl rfl (Ev.load1 (agg_run rfl) rfl (by first | exact H.ldL 0 rfl _ rfl | exact H.ldL 1 rfl _ rfl | exact H.ldL 2 rfl _ rfl | exact H.ldL 3 rfl _ rfl | exact H.ldL 4 rfl _ rfl | exact H.ldL 5 rfl _ rfl | exact H.ldL 6 rfl _ rfl | exact H.ldL 7 rfl _ rfl | exact H.ld0 (by assumption) | assumption | exact H.ldS (by assumption) (by assumption))) ?_
  refine OPS.val rfl rfl rfl (Ev.mvI rfl) ?_
  refine OPS.val rfl rfl rfl ((by first | exact Ev.indexAddr1 (el_run rfl) (size_run rfl) rfl rfl rfl (by omega) | exact Ev.indexAddr (el_run rfl) (size_run rfl) rfl rfl rfl (by omega))) ?_
  refine OPS.val rfl rfl rfl (Ev.loadN (spC σ.sp[j]) (agg_run rfl) (size_run rfl) rfl (rowIn H 1 rfl hj)) ?_
  refine OPS.alloc rfl rfl rfl rfl (zero_run rfl) rfl H ?_
  clear H; intro g6 w H
  first | refine OPS.store 0 _ rfl rfl rfl (size_run rfl) rfl (cA rfl) rfl rfl H rfl (by simp) ?_ | refine OPS.store 1 _ rfl rfl rfl (size_run rfl) rfl (cA rfl) rfl rfl H rfl (by simp) ?_ | refine OPS.store 2 _ rfl rfl rfl (size_run rfl) rfl (cA rfl) rfl rfl H rfl (by simp) ?_ | refine OPS.store 3 _ rfl rfl rfl (size_run rfl) rfl (cA rfl) rfl rfl H rfl (by simp) ?_ | refine OPS.store 4 _ rfl rfl rfl (size_run rfl) rfl (cA rfl) rfl rfl H rfl (by simp) ?_ | refine OPS.store 5 _ rfl rfl rfl (size_run rfl) rfl (cA rfl) rfl rfl H rfl (by simp) ?_ | refine OPS.store 6 _ rfl rfl rfl (size_run rfl) rfl (cA rfl) rfl rfl H rfl (by simp) ?_ | refine OPS.store 7 _ rfl rfl rfl (size_run rfl) rfl (cA rfl) rfl rfl H rfl (by simp) ?_ | refine OPS.store 8 _ rfl rfl rfl (size_run rfl) rfl (cA rfl) rfl rfl H rfl (by simp) ?_
  clear H; intro w H; try simp only [List.set_cons_zero, List.set_cons_succ, putL, Nat.zero_add] at H
  refine OPS.nil ?_
  refine WP.seq ?_
  refine WP.region ?_
  refine OPS.val rfl rfl rfl (Ev.fieldAddr (fld_run rfl) rfl) ?_
  refine OPS.val rfl rfl rfl (Ev.load1 (agg_run rfl) rfl (by first | exact H.ldL 0 rfl _ rfl | exact H.ldL 1 rfl _ rfl | exact H.ldL 2 rfl _ rfl | exact H.ldL 3 rfl _ rfl | exact H.ldL 4 rfl _ rfl | exact H.ldL 5 rfl _ rfl | exact H.ldL 6 rfl _ rfl | exact H.ldL 7 rfl _ rfl | exact H.ld0 (by assumption) | assumption | exact H.ldS (by assumption) (by assumption))) ?_
  refine OPS.val rfl rfl rfl (Ev.eql rfl rfl) ?_
  refine OPS.nil ?_
  refine WP.cond rfl (fun hc2 => ?_) (fun hc2 => ?_)
  · have hw : σ.sp[j].wh = 3 := by simpa using hc2
    obtain ⟨kl, hkl⟩ := MapAt.key hM ((hm _).2 ⟨j, hj, hw, rfl⟩)
    refine WP.rtail 6 mixed (by kernel_rfl) H ?_
    clear H; intro w hbw3 H
    refine OPS.val rfl rfl rfl (Ev.mvP rfl) ?_
    refine OPS.val rfl rfl rfl ((by first | exact Ev.nilCheckP rfl | exact Ev.nilCheckF rfl)) ?_
    refine OPS.val rfl rfl rfl (Ev.fieldAddr (fld_run rfl) rfl) ?_
    refine OPS.val rfl rfl rfl (Ev.load1 (agg_run rfl) rfl (H.ldS hO n1)) ?_
    refine OPS.val rfl rfl rfl (Ev.fieldAddr (fld_run rfl) rfl) ?_
    refine OPS.val rfl rfl rfl (Ev.load1 (agg_run rfl) rfl (H.ldL 0 rfl _ rfl)) ?_
    refine OPS.nil_s ?_
    refine OPS.delMap rfl rfl rfl (hM.sh H n2) (int_keyed Try.underlying3) Try.underlying67 hkl rfl rfl (H.weak (S' := [l.gP, l.gO]) (by simp)) (.inl (by simp)) ?_
    clear H; intro w m' H hM' hoth hm1
    have hm' : ∀ p, p ∈ m' ↔ ∃ b, ∃ h : b < σ.sp.length, b ≠ j ∧ σ.sp[b].wh = 3 ∧ p = (I σ.sp[b].ri, .pointer (some ⟨tg b, 0, none⟩)) := by
      intro p
      rw [hm1, hm]
      constructor
      · rintro ⟨⟨b, hb, hwb, rfl⟩, hne⟩
        exact ⟨b, hb, fun he => by subst he; exact hne rfl, hwb, rfl⟩
      · rintro ⟨b, hb, hbj, hwb, rfl⟩
        refine ⟨⟨b, hb, hwb, rfl⟩, fun he => hbj (h.uni hb hj hwb hw ?_)⟩
        simpa using he
    refine OPS.nil ?_
    have HB := H
    have n3 : l.gS ∉ [l.gP, l.gO] := by simpa using ⟨h.nSP, h.nSO⟩
    have hP2 := H.ldS hP n3
    have n4 : l.gS ∉ [g6, g5, l.gP] := by
      have hlt : l.gS < w0.heap.size := (Array.getElem?_eq_some_iff.1 h.st).1
      have h6 := HB.may _ (List.mem_cons_self ..)
      have h5 := HB.may _ (List.mem_cons_of_mem _ (List.mem_cons_self ..))
      have a1 := h.nSP
      have a2 := h.nSO
      simp only [List.mem_cons, List.not_mem_nil, or_false] at h6 h5 ⊢
      omega
    have hfit : 0 + j * 4 + (spC s).length ≤ (σ.sp.flatMap spC).length := by
      rw [rows_length (sz := 4) (fun _ => rfl), spC_len]; omega
    replace H : SH w [g6, g5, l.gP] w [⟨g6, 42, spC σ.sp[j]⟩, ⟨g5, 42, spC s⟩, ⟨l.gP, 42, σ.sp.flatMap spC⟩] := HB.restart (List.Sublist.refl _)
    refine WP.rtail 7 mixed (by kernel_rfl) H ?_
    clear H; intro w hbw4 H
    refine OPS.val rfl rfl rfl (Ev.mvP rfl) ?_
    refine OPS.val rfl rfl rfl ((by first | exact Ev.nilCheckP rfl | exact Ev.nilCheckF rfl)) ?_
    refine OPS.val rfl rfl rfl (Ev.fieldAddr (fld_run rfl) rfl) ?_
    refine OPS.val rfl rfl rfl (Ev.load1 (agg_run rfl) rfl (H.ldS hP2 n4)) ?_
    refine OPS.val rfl rfl rfl (Ev.mvI rfl) ?_
    refine OPS.val rfl rfl rfl (Ev.loadO 1 H rfl (agg_run rfl) (size_run rfl) rfl rfl) ?_
    refine OPS.val rfl rfl rfl ((by first | exact Ev.indexAddr1 (el_run rfl) (size_run rfl) rfl rfl rfl (by omega) | exact Ev.indexAddr (el_run rfl) (size_run rfl) rfl rfl rfl (by omega))) ?_
    refine OPS.nil_s ?_
    refine OPS.store 2 (0 + j * 4) rfl rfl rfl (size_run rfl) rfl (cA rfl) rfl rfl H rfl hfit ?_
    clear H; intro w2 H
    refine OPS.nil ?_
    refine ⟨_, rfl, ?_⟩
    have H : SH _ [g6, g5, l.gP] w2 [⟨g6, 42, spC σ.sp[j]⟩, ⟨g5, 42, spC s⟩, ⟨l.gP, 42, putL (σ.sp.flatMap spC) (0 + j * 4) (spC s)⟩] := H
    rw [Nat.zero_add, putL_rows (enc := spC) (sz := 4) (fun _ => rfl) _ _ _ hj] at H
    have HF := SH.cont HB H
    have n5 : l.gO ∉ [g6, g5, l.gP] := by
      have hlt : l.gO < w0.heap.size := hM.lt
      have h6 := HB.may _ (List.mem_cons_self ..)
      have h5 := HB.may _ (List.mem_cons_of_mem _ (List.mem_cons_self ..))
      have a1 := HB.nodup
      have a2 := hM'.notMem HB
      simpa using a2
    exact ⟨rfl, HF.drop (List.nil_sublist _), h.set hj hs HF (hM'.sh H n5) hm'⟩
  have hw : σ.sp[j].wh ≠ 3 := by simpa using hc2
  obtain ⟨m', hM', hm'⟩ : ∃ m', MapAt Try.prog 3 w l.gO m' ∧ ∀ p, p ∈ m' ↔ ∃ b, ∃ h : b < σ.sp.length, b ≠ j ∧ σ.sp[b].wh = 3 ∧ p = (I σ.sp[b].ri, .pointer (some ⟨tg b, 0, none⟩)) := by
    refine ⟨m, hM.sh H n2, fun p => (hm p).trans ⟨?_, ?_⟩⟩
    · rintro ⟨b, hb, hwb, rfl⟩
      exact ⟨b, hb, fun he => by subst he; exact hw hwb, hwb, rfl⟩
    · rintro ⟨b, hb, _, hwb, rfl⟩
      exact ⟨b, hb, hwb, rfl⟩
  replace H := H.weak (S' := [l.gP, l.gO]) (by simp)
  refine WP.skip ?_
  have HB := H
  have n3 : l.gS ∉ [l.gP, l.gO] := by simpa using ⟨h.nSP, h.nSO⟩
  have hP2 := H.ldS hP n3
  have n4 : l.gS ∉ [g6, g5, l.gP] := by
    have hlt : l.gS < w0.heap.size := (Array.getElem?_eq_some_iff.1 h.st).1
    have h6 := HB.may _ (List.mem_cons_self ..)
    have h5 := HB.may _ (List.mem_cons_of_mem _ (List.mem_cons_self ..))
    have a1 := h.nSP
    have a2 := h.nSO
    simp only [List.mem_cons, List.not_mem_nil, or_false] at h6 h5 ⊢
    omega
  have hfit : 0 + j * 4 + (spC s).length ≤ (σ.sp.flatMap spC).length := by
    rw [rows_length (sz := 4) (fun _ => rfl), spC_len]; omega
  replace H : SH w [g6, g5, l.gP] w [⟨g6, 42, spC σ.sp[j]⟩, ⟨g5, 42, spC s⟩, ⟨l.gP, 42, σ.sp.flatMap spC⟩] := HB.restart (List.Sublist.refl _)
  refine WP.rtail 7 mixed (by kernel_rfl) H ?_
  clear H; intro w hbw4 H
  refine OPS.val rfl rfl rfl (Ev.mvP rfl) ?_
  refine OPS.val rfl rfl rfl ((by first | exact Ev.nilCheckP rfl | exact Ev.nilCheckF rfl)) ?_
  refine OPS.val rfl rfl rfl (Ev.fieldAddr (fld_run rfl) rfl) ?_
  refine OPS.val rfl rfl rfl (Ev.load1 (agg_run rfl) rfl (H.ldS hP2 n4)) ?_
  refine OPS.val rfl rfl rfl (Ev.mvI rfl) ?_
  refine OPS.val rfl rfl rfl (Ev.loadO 1 H rfl (agg_run rfl) (size_run rfl) rfl rfl) ?_
  refine OPS.val rfl rfl rfl ((by first | exact Ev.indexAddr1 (el_run rfl) (size_run rfl) rfl rfl rfl (by omega) | exact Ev.indexAddr (el_run rfl) (size_run rfl) rfl rfl rfl (by omega))) ?_
  refine OPS.nil_s ?_
  refine OPS.store 2 (0 + j * 4) rfl rfl rfl (size_run rfl) rfl (cA rfl) rfl rfl H rfl hfit ?_
  clear H; intro w2 H
  refine OPS.nil ?_
  refine ⟨_, rfl, ?_⟩
  have H : SH _ [g6, g5, l.gP] w2 [⟨g6, 42, spC σ.sp[j]⟩, ⟨g5, 42, spC s⟩, ⟨l.gP, 42, putL (σ.sp.flatMap spC) (0 + j * 4) (spC s)⟩] := H
  rw [Nat.zero_add, putL_rows (enc := spC) (sz := 4) (fun _ => rfl) _ _ _ hj] at H
  have HF := SH.cont HB H
  have n5 : l.gO ∉ [g6, g5, l.gP] := by
    have hlt : l.gO < w0.heap.size := hM.lt
    have h6 := HB.may _ (List.mem_cons_self ..)
    have h5 := HB.may _ (List.mem_cons_of_mem _ (List.mem_cons_self ..))
    have a1 := HB.nodup
    have a2 := hM'.notMem HB
    simpa using a2
  exact ⟨rfl, HF.drop (List.nil_sublist _), h.set hj hs HF (hM'.sh H n5) hm'⟩
end Go.Proofs.Ytchjbjplddhknaa

/-
  Walks: pause.
-/
set_option linter.all false
namespace Go.Proofs.Ytchjbjplddhknaa
open Go Go.W Go.RowKit
open Go.Maps (Keyed int_keyed keyOf_int_mk)

theorem set_pa : ∀ (l : List Spt) (j : Nat) (hj : j < l.length) (p : Bool), putL (l.flatMap spC) (j * 4 + 3) [.bool p] = (l.set j { l[j] with pa := p }).flatMap spC
  | [], j, hj, _ => by simp at hj
  | x :: l, 0, _, p => rfl
  | x :: l, j + 1, hj, p => by
    have ih := set_pa l j (by simpa using hj) p
    rw [List.flatMap_cons, show (j + 1) * 4 + 3 = (spC x).length + (j * 4 + 3) by rw [spC_len]; omega, putL_append_right, ih]
    rfl
section
variable {w w' w0 : World} {l : Loc} {σ : Sta} {tg tg' : Nat → Nat} {L : List Blk} {S : List Nat}
theorem Rep.inj (h : Rep w l σ tg) {b c : Nat} (hb : b < σ.sp.length) (hc : c < σ.sp.length) (h1 : σ.sp[b].wh = 3) (h2 : σ.sp[c].wh = 3) (he : tg b = tg c) : b = c := by
  have c1 : w.cell? ⟨tg b, 1, none⟩ = some (I b) := cell_heap (h.tr b hb h1) rfl
  have c2 : w.cell? ⟨tg c, 1, none⟩ = some (I c) := cell_heap (h.tr c hc h2) rfl
  rw [he, c2] at c1
  have : (c : Int) = b := by simpa using c1
  omega
end
theorem pauseS (l : Loc) (σ : Sta) (tg : Nat → Nat) (j : Nat) (hj : j < σ.sp.length) (hw : σ.sp[j].wh = 3) (p : Bool) (w0 : World) (h : Rep w0 l σ tg) :
    Calls Try.prog 52 #[.pointer (some ⟨l.gS, 0, none⟩), I j, .bool p] w0 fun e w' => e = .returned (.tuple #[]) ∧ SH w0 [l.gP, tg j] w' [] ∧ Rep w' l ⟨σ.sp.set j { σ.sp[j] with pa := p }, σ.us⟩ tg := by
  have hnt := h.nT hj hw
  have H : SH w0 [l.gP, tg j] w0 [⟨l.gP, 42, σ.sp.flatMap spC⟩, ⟨tg j, 104, [I σ.sp[j].who, I j, .bool σ.sp[j].pa]⟩] :=
    SH.ofs (L := [⟨l.gP, 42, σ.sp.flatMap spC⟩, ⟨tg j, 104, [I σ.sp[j].who, I j, .bool σ.sp[j].pa]⟩]) (by simpa using ⟨h.sp, h.tr j hj hw⟩) (by simpa using hnt.2.1.symm)
  have hP := h.cell (k := 5) rfl
  have hO := h.cell (k := 6) rfl
  have n1 : l.gS ∉ [l.gP, tg j] := by simpa using ⟨h.nSP, hnt.1.symm⟩
  have n2 : l.gO ∉ [l.gP, tg j] := by simpa using ⟨h.nPO.symm, hnt.2.2.1.symm⟩
  obtain ⟨m, hM, hm⟩ := h.op
  obtain ⟨kl, hkl⟩ := MapAt.key hM ((hm _).2 ⟨j, hj, hw, rfl⟩)
  have hsm := h.small
  refine Calls.ofWP Try.func52 rfl Try.results52 Try.ntmps52 rfl ?_
  refine WP.seq ?_
  refine WP.rtail 16 mixed (by kernel_rfl) H ?_
  clear H; intro w hbw0 H
  refine OPS.val rfl rfl rfl (Ev.mvP rfl) ?_
  refine OPS.val rfl rfl rfl ((by first | exact Ev.nilCheckP rfl | exact Ev.nilCheckF rfl)) ?_
  refine OPS.val rfl rfl rfl (Ev.fieldAddr (fld_run rfl) rfl) ?_
  refine OPS.val rfl rfl rfl (Ev.load1 (agg_run rfl) rfl (H.ldS hO n1)) ?_
  refine OPS.val rfl rfl rfl (Ev.mvP rfl) ?_
  refine OPS.val rfl rfl rfl ((by first | exact Ev.nilCheckP rfl | exact Ev.nilCheckF rfl)) ?_
  refine OPS.val rfl rfl rfl (Ev.fieldAddr (fld_run rfl) rfl) ?_
  refine OPS.val rfl rfl rfl (Ev.load1 (agg_run rfl) rfl (H.ldS hP n1)) ?_
  refine OPS.val rfl rfl rfl (Ev.mvI rfl) ?_
  refine OPS.val rfl rfl rfl ((by first | exact Ev.indexAddr1 (el_run rfl) (size_run rfl) rfl rfl rfl (by omega) | exact Ev.indexAddr (el_run rfl) (size_run rfl) rfl rfl rfl (by omega))) ?_
  refine OPS.val rfl rfl rfl (Ev.fieldAddr (fld_run rfl) rfl) ?_
  refine OPS.val rfl rfl rfl (Ev.load1 (agg_run rfl) rfl (rowIn H 0 rfl hj).2.2.1) ?_
  refine OPS.val rfl rfl rfl (Ev.look1 (hM.sh H n2) ((hm _).2 ⟨j, hj, hw, rfl⟩) (int_keyed Try.underlying3) Try.underlying67 (zero_run rfl) hkl rfl rfl) ?_
  refine OPS.val rfl rfl rfl (Ev.mvB rfl) ?_
  refine OPS.val rfl rfl rfl ((by first | exact Ev.nilCheckP rfl | exact Ev.nilCheckF rfl)) ?_
  refine OPS.val rfl rfl rfl (Ev.fieldAddr (fld_run rfl) rfl) ?_
  refine OPS.nil_s ?_
  refine OPS.store 1 _ rfl rfl rfl (size_run rfl) rfl (cB rfl) rfl rfl H rfl (by simp) ?_
  clear H; intro w H
  refine OPS.nil ?_
  refine WP.region ?_
  refine OPS.val rfl rfl rfl (Ev.mvP rfl) ?_
  refine OPS.val rfl rfl rfl ((by first | exact Ev.nilCheckP rfl | exact Ev.nilCheckF rfl)) ?_
  refine OPS.val rfl rfl rfl (Ev.fieldAddr (fld_run rfl) rfl) ?_
  refine OPS.val rfl rfl rfl (Ev.load1 (agg_run rfl) rfl (H.ldS hP n1)) ?_
  refine OPS.val rfl rfl rfl (Ev.mvI rfl) ?_
  refine OPS.val rfl rfl rfl (Ev.mvB rfl) ?_
  refine OPS.val rfl rfl rfl ((by first | exact Ev.indexAddr1 (el_run rfl) (size_run rfl) rfl rfl rfl (by omega) | exact Ev.indexAddr (el_run rfl) (size_run rfl) rfl rfl rfl (by omega))) ?_
  refine OPS.val rfl rfl rfl (Ev.fieldAddr (fld_run rfl) rfl) ?_
  refine OPS.store 0 (0 + j * 4 + 3) rfl rfl rfl (size_run rfl) rfl (cB rfl) rfl rfl H rfl (by show 0 + j * 4 + 3 + 1 ≤ (σ.sp.flatMap spC).length; rw [rows_length (sz := 4) (fun _ => rfl)]; omega) ?_
  clear H; intro w H
  refine OPS.nil ?_
  refine ⟨_, rfl, ?_⟩
  have H : SH w0 [l.gP, tg j] w [⟨l.gP, 42, putL (σ.sp.flatMap spC) (0 + j * 4 + 3) [.bool p]⟩, ⟨tg j, 104, [I σ.sp[j].who, I j, .bool p]⟩] := H
  rw [Nat.zero_add, set_pa _ _ hj] at H
  have key : ∀ b, ∀ hb : b < (σ.sp.set j { σ.sp[j] with pa := p }).length, ∃ hb' : b < σ.sp.length, (σ.sp.set j { σ.sp[j] with pa := p })[b].wh = σ.sp[b].wh ∧ (σ.sp.set j { σ.sp[j] with pa := p })[b].ri = σ.sp[b].ri := fun b hb => by
    have hb' : b < σ.sp.length := by simpa using hb
    refine ⟨hb', ?_⟩
    by_cases he : j = b
    · subst he; rw [List.getElem_set_self]; exact ⟨rfl, rfl⟩
    · rw [List.getElem_set_ne he]; exact ⟨rfl, rfl⟩
  refine ⟨rfl, H.drop (List.nil_sublist _), h.next H (by simpa using ⟨h.fr.2.1, h.fr.2.2.2.2 j hj hw⟩) n1 (by simp) (H.own ⟨l.gP, 42, (σ.sp.set j { σ.sp[j] with pa := p }).flatMap spC⟩ (by simp)) ⟨m, hM.sh H n2, fun q => (hm q).trans ⟨?_, ?_⟩⟩ ?_ ?_ ?_⟩
  · rintro ⟨b, hb, hwb, rfl⟩
    have hb2 : b < (σ.sp.set j { σ.sp[j] with pa := p }).length := by simpa using hb
    obtain ⟨_, k1, k2⟩ := key b hb2
    exact ⟨b, hb2, by rw [k1]; exact hwb, by rw [k2]⟩
  · rintro ⟨b, hb, hwb, rfl⟩
    obtain ⟨hb', k1, k2⟩ := key b hb
    exact ⟨b, hb', by rw [← k1]; exact hwb, by rw [k2]⟩
  · obtain ⟨mu, hMu, hmu⟩ := h.us
    exact ⟨mu, hMu.sh H (by simpa using ⟨h.nPU.symm, hnt.2.2.2.symm⟩), hmu⟩
  · intro b hb hwb
    obtain ⟨hb', k1, k2⟩ := key b hb
    by_cases he : j = b
    · subst he
      rw [List.getElem_set_self]
      exact H.own ⟨tg j, 104, [I σ.sp[j].who, I j, .bool p]⟩ (by simp)
    · rw [k1] at hwb
      rw [List.getElem_set_ne he]
      have ht := h.tr b hb' hwb
      rw [H.low (tg b) (Array.getElem?_eq_some_iff.1 ht).1 (by
        have h3 := h.nT hb' hwb
        have h4 : tg b ≠ tg j := fun h5 => he (h.inj hb' hj hwb hw h5).symm
        simpa using ⟨h3.2.1, h4⟩)]
      exact ht
  · intro b hb hwb
    obtain ⟨hb', k1, k2⟩ := key b hb
    rw [k1] at hwb
    exact h.fr.2.2.2.2 b hb' hwb
end Go.Proofs.Ytchjbjplddhknaa
