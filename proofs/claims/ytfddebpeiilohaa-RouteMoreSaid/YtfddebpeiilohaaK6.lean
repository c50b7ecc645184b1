/-
  Walks: the best of the orders of some needs.
-/
import Derived.Test.YtfddebpeiilohaaO4
set_option linter.all false
namespace Go.Proofs.Ytfddebpeiilohaa
open Go Go.W Go.RowKit

theorem or_worse {m d : List Int → Int} {a b : List Int} : orI [cmpI (m a) (m b), cmpI (d b) (d a), cmpLs b a] < 0 ↔ worse m d a b := by
  have hl := cmpLs_neg b a
  unfold worse cmpI orI orI orI orI
  by_cases h1 : m a < m b
  · simp [h1]
  · by_cases h2 : m b < m a
    · simp [h1, h2]; omega
    · have : m a = m b := by omega
      by_cases h3 : d b < d a
      · simp [this, h3]
      · by_cases h4 : d a < d b
        · simp [this, h3, h4]; omega
        · have : d a = d b := by omega
          simp [*]
          by_cases h5 : cmpLs b a = 0
          · simp [h5] at hl ⊢; simpa using hl
          · simp [h5]; exact hl
section
variable (n : Int) (l : List Edg) (ts : List Truck) (ns : List Need) (hd rt : Int)
noncomputable def secsD (o : List Int) : Int := outD n l ts ns hd rt o
noncomputable def feasB (o : List Int) : Bool := decide (walkE n l ts ns hd rt o = 0)
noncomputable def fndV (s : Option (List Int)) (A : Option Addr) (c : Nat) : List Value :=
  match s with
  | none => fndCells none 0 0 0 0 false
  | some x => fndCells A x.length c (mvL ns x) (secsD n l ts ns hd rt x) true
theorem fndV_len (s : Option (List Int)) (A : Option Addr) (c : Nat) : (fndV n l ts ns hd rt s A c).length = 4 := by cases s <;> rfl
def OwnF (s : Option (List Int)) (A : Option Addr) (c : Nat) (Lf : List Blk) : Prop :=
  match s with
  | none => Lf = []
  | some x => OwnS A c x.length (x.map I) 3 1 Lf
noncomputable def takesB (s : Option (List Int)) (y : List Int) : Bool :=
  match s with
  | none => true
  | some x => decide (worse (mvL ns) (secsD n l ts ns hd rt) x y)
theorem betterO (s : Option (List Int)) (A : Option Addr) (c : Nat) (B : Option Addr) (y : List Int) (cb : Nat) (w0 : World) (ha : ∀ x, s = some x → IntsAt w0 A x ∧ x.length ≤ 1000) (hb : IntsAt w0 B y) (hbl : y.length ≤ 1000) :
    Calls Try.prog 28 #[.agg (fndV n l ts ns hd rt s A c).toArray, .agg (fndV n l ts ns hd rt (some y) B cb).toArray] w0 fun e w' => e = .returned (.agg (fndV n l ts ns hd rt (bet (mvL ns) (secsD n l ts ns hd rt) s (some y)) (if takesB n l ts ns hd rt s y = true then B else A) (if takesB n l ts ns hd rt s y = true then cb else c)).toArray) ∧ Below w0.heap.size w0 w' := by
  cases s with
  | none => exact betterN undef undef undef B y.length cb (mvL ns y) (secsD n l ts ns hd rt y) none 0 0 0 0 w0
  | some x =>
    obtain ⟨h1, h2⟩ := ha x rfl
    refine (betterY A x c (mvL ns x) (secsD n l ts ns hd rt x) B y cb (mvL ns y) (secsD n l ts ns hd rt y) w0 h1 hb h2 hbl).mono ?_
    rintro e w' ⟨rfl, hB⟩
    refine ⟨?_, hB⟩
    by_cases h : worse (mvL ns) (secsD n l ts ns hd rt) x y
    · have h' := (or_worse (m := mvL ns) (d := secsD n l ts ns hd rt)).2 h
      have ht : takesB n l ts ns hd rt (some x) y = true := decide_eq_true h
      have hbt : bet (mvL ns) (secsD n l ts ns hd rt) (some x) (some y) = some y := if_pos h
      rw [if_pos h', if_pos ht, if_pos ht, hbt]; rfl
    · have h' := fun q => h ((or_worse (m := mvL ns) (d := secsD n l ts ns hd rt)).1 q)
      have ht : ¬ takesB n l ts ns hd rt (some x) y = true := by simpa [takesB] using h
      have hbt : bet (mvL ns) (secsD n l ts ns hd rt) (some x) (some y) = some x := if_neg h
      rw [if_neg h', if_neg ht, if_neg ht, hbt]; rfl
/-- what the visitor keeps -/
def VisR (wB : World) (g7 : Nat) (s : Option (List Int)) (Lv : List Blk) : Prop :=
  (∀ g ∈ Lv.map (·.g), wB.heap.size ≤ g) ∧ (∀ x, s = some x → x.length ≤ 1000) ∧ ∃ A c Lf, Lv = ⟨g7, 49, fndV n l ts ns hd rt s A c⟩ :: Lf ∧ OwnF s A c Lf
end
end Go.Proofs.Ytfddebpeiilohaa

/-
  Walks: the visitor of best; best.
-/
set_option linter.all false
namespace Go.Proofs.Ytfddebpeiilohaa
open Go Go.W Go.RowKit

section
variable (n : Int) (l : List Edg) (ts : List Truck) (ns : List Need) (hd rt : Int)
theorem fndV_one (s : Option (List Int)) (A : Option Addr) (c : Nat) : ((fndV n l ts ns hd rt s A c).all (·.oneCell')) = true := by cases s <;> rfl
theorem fndV_put (s s' : Option (List Int)) (A A' : Option Addr) (c c' : Nat) : putL (fndV n l ts ns hd rt s A c) 0 (fndV n l ts ns hd rt s' A' c') = fndV n l ts ns hd rt s' A' c' := by cases s <;> cases s' <;> rfl
theorem takes_bet (s : Option (List Int)) (y : List Int) : bet (mvL ns) (secsD n l ts ns hd rt) s (some y) = if takesB n l ts ns hd rt s y = true then some y else s := by
  cases s with
  | none => rfl
  | some x =>
    by_cases h : worse (mvL ns) (secsD n l ts ns hd rt) x y
    · rw [show takesB n l ts ns hd rt (some x) y = true from decide_eq_true h, if_pos rfl]; exact if_pos h
    · rw [if_neg (by simpa [takesB] using h)]; exact if_neg h
end
set_option maxHeartbeats 4000000 in
theorem routeBestV (n hd rt : Int) (A B C : Option Addr) (l : List Edg) (ts : List Truck) (ns : List Need) (ca cb cc g3 g4 g7 : Nat) (wB : World) (hz : EdgsAt wB A l) (ht : RowsAt 4 truckCells wB B ts) (hn : RowsAt 2 needCells wB C ns) (hcc : ns.length ≤ cc)
    (h3 : cellsAt wB g3 0 [I n, .slice A l.length ca, .slice B ts.length cb, .slice C ns.length cc, I hd]) (h4 : wB.cell? ⟨g4, 0, none⟩ = some (I rt)) (hm : ∀ x ∈ ns, -32 ≤ x.move ∧ x.move ≤ 32)
    (s : Option (List Int)) (Lv : List Blk) (w0 : World) (O : Option Addr) (o : List Int) (co : Nat) (hB : Below wB.heap.size wB w0) (hR : VisR n l ts ns hd rt wB g7 s Lv) (H0 : SH w0 (Lv.map (·.g)) w0 Lv) (ho : IntsAt w0 O o) (hO : O = none → co = 0) (hlc : o.length ≤ co) (hol : o.length ≤ 16) :
    Calls Try.prog 41 ([Value.slice O o.length co] ++ [Value.pointer (some ⟨g3, 0, none⟩), Value.pointer (some ⟨g4, 0, none⟩), Value.pointer (some ⟨g7, 0, none⟩)]).toArray w0 fun e w' => ∃ Lv', e = .returned (.tuple #[]) ∧ VisR n l ts ns hd rt wB g7 (visB (mvL ns) (secsD n l ts ns hd rt) (feasB n l ts ns hd rt) s o) Lv' ∧ SH w0 (Lv.map (·.g)) w' Lv' := by
  obtain ⟨hge, hxl, A', c', Lf, rfl, hOF⟩ := hR
  obtain ⟨S, hS⟩ : ∃ S, S = List.map (·.g) (⟨g7, 49, fndV n l ts ns hd rt s A' c'⟩ :: Lf) := ⟨_, rfl⟩
  rw [← hS] at H0 hge ⊢
  have hbel : ∀ {w : World} {L : List Blk}, SH w0 S w L → Below wB.heap.size wB w := fun {w L} H =>
    ⟨H.os.trans hB.os, H.tape.trans hB.tape, H.output.trans hB.output, Nat.le_trans hB.size H.size, fun k hk => (H.low k (Nat.lt_of_lt_of_le hk hB.size) (fun hm => by have := hge k hm; omega)).trans (hB.block k hk)⟩
  have H := H0
  have hW := Below.refl w0.heap.size w0
  simp only [List.cons_append, List.nil_append]
  refine Calls.ofWP Try.func41 rfl Try.results41 Try.ntmps41 rfl ?_
  refine WP.seq ?_
  refine WP.region ?_
  refine OPS.val rfl rfl rfl ((by (change Ev _ _ _ _ (Op.load 28 (Operand.tmp 1)) _; exact Ev.loadN [I n, .slice A l.length ca, .slice B ts.length cb, .slice C ns.length cc, I hd] (agg_run rfl) (size_run rfl) rfl (cellsAt_below hB h3)))) ?_
  refine OPS.val rfl rfl rfl (Ev.load1 (agg_run rfl) rfl (cell_below hB h4)) ?_
  refine OPS.val rfl rfl rfl (Ev.mvS rfl) ?_
  refine OPS.val rfl rfl rfl (Ev.build (bld_34_0_1 rfl rfl)) ?_
  refine OPS.call (d := some 12) rfl rfl rfl (EvC.func (fun_run rfl)) (truckDriving n hd rt A B C O l ts ns o ca cb cc co w0 (hz.below hB) (ht.below hB) (hn.below hB) hcc ho (by unfold maxLen; omega) hlc) ?_
  rintro _ w ⟨rfl, hb⟩
  refine ⟨_, rfl, ?_⟩
  replace H := H.toBelow hb
  replace hW := hb
  clear hb
  refine OPS.val rfl rfl rfl (Ev.mvT rfl) ?_
  refine OPS.val rfl rfl rfl (Ev.extract rfl rfl) ?_
  refine OPS.val rfl rfl rfl (Ev.extract rfl rfl) ?_
  refine OPS.val rfl rfl rfl (Ev.asI rfl) ?_
  refine OPS.val rfl rfl rfl (Ev.asI rfl) ?_
  refine OPS.nil ?_
  refine WP.seq ?_
  refine WP.region ?_
  refine OPS.val rfl rfl rfl (Ev.mvI rfl) ?_
  refine OPS.val rfl rfl rfl (Ev.eql rfl rfl) ?_
  refine OPS.nil ?_
  refine WP.cond rfl (fun hc1 => ?_) (fun hc1 => ?_)
  · have hfe : walkE n l ts ns hd rt o = 0 := by simpa using hc1
    have hF : feasB n l ts ns hd rt o = true := decide_eq_true hfe
    have hin : ∀ i ∈ o, 0 ≤ i ∧ i < ns.length := by
      have h : routeErr ts ns rt o = 0 := by
        unfold walkE at hfe
        split at hfe
        · rename_i h1; exact absurd hfe h1
        · split at hfe
          · rename_i h1; exact absurd hfe h1
          · rename_i h1; simpa using h1
      exact (routeOk_of h).2.1
    have hvis : visB (mvL ns) (secsD n l ts ns hd rt) (feasB n l ts ns hd rt) s o = bet (mvL ns) (secsD n l ts ns hd rt) s (some o) := if_pos hF
    rw [hvis]
    have Hf := H
    replace H := H.drop (List.nil_sublist _)
    refine WP.rheldC [17, 18, 19, 20, 21, 22, 23, 24, 25] (fun _ w' => ∃ Lv', VisR n l ts ns hd rt wB g7 (bet (mvL ns) (secsD n l ts ns hd rt) s (some o)) Lv' ∧ SH w0 S w' Lv') mixed H ?_ ?_
    · clear H; intro w hbw2 H
      refine OPH.take 1 rfl rfl rfl rfl (by kernel_rfl) (by kernel_rfl) (by kernel_rfl) rfl (by exact H) (fun w H => Ev.mvS rfl) ?_
      refine OPH.take 3 rfl rfl rfl rfl (by kernel_rfl) (by kernel_rfl) (by kernel_rfl) rfl (by exact H) (fun w H => (by refine Ev.loadN (b := g3) (o := 0) [I n, .slice A l.length ca, .slice B ts.length cb, .slice C ns.length cc, I hd] ?_ ?_ ?_ (cellsAt_below (hbel H) h3); exact agg_run rfl; exact size_run rfl; rfl)) ?_
      refine OPH.take 4 rfl rfl rfl rfl (by kernel_rfl) (by kernel_rfl) (by kernel_rfl) rfl (by exact H) (fun w H => Ev.mvS rfl) ?_
      refine OPH.take 6 rfl rfl rfl rfl (by kernel_rfl) (by kernel_rfl) (by kernel_rfl) rfl (by exact H) (fun w H => Ev.mvI rfl) ?_
      refine OPH.all [0, 2] (by kernel_rfl) (by simp) rfl ?_
      intro i hi; simp only [List.mem_cons, List.not_mem_nil, or_false] at hi
      rcases hi with rfl | rfl
      · refine ⟨_, rfl, ?_⟩
        try replace Hf := Hf.toBelow hbw2
        refine OPS.val rfl rfl rfl (Ev.loadO 0 Hf rfl (agg_run rfl) (size_run rfl) (fndV_len n l ts ns hd rt s A' c') rfl) ?_
        refine OPS.nil ?_
        refine ⟨(by exact H), ?_⟩
        refine OPH.all [2] (by kernel_rfl) (by simp) rfl ?_
        intro i hi; simp only [List.mem_cons, List.not_mem_nil, or_false] at hi
        rcases hi with rfl
        · refine ⟨_, rfl, ?_⟩
          try replace Hf := Hf.toBelow hbw2
          try replace hW := hW.trans (hbw2.mono hW.size)
          refine OPS.call (d := some 19) rfl rfl rfl (EvC.func (fun_run rfl)) (slClone O o co w (ho.below hW) (by omega) hO) ?_
          rintro _ w ⟨B', cb', Lo, rfl, hOo, Hc⟩
          refine ⟨_, rfl, ?_⟩
          replace hW := hW.trans (Hc.below.mono hW.size)
          replace Hf := SH.call (L1 := _ :: Lf) (Lv := []) (by simpa using Hf) Hc
          clear Hc
          have H := Hf.drop (List.nil_sublist _)
          refine OPS.nil ?_
          refine ⟨(by exact H), ?_⟩
          refine OPH.all [5] (by kernel_rfl) (by simp) rfl ?_
          intro i hi; simp only [List.mem_cons, List.not_mem_nil, or_false] at hi
          rcases hi with rfl
          · refine ⟨_, rfl, ?_⟩
            refine OPS.call (d := some 22) rfl rfl rfl (EvC.func (fun_run rfl)) (routeMoved n hd A B C O l ts ns o ca cb cc co w (hn.below (hbel Hf)) hm (ho.below hW) (by omega) hin) ?_
            rintro _ w ⟨rfl, hb'⟩
            refine ⟨_, rfl, ?_⟩
            replace Hf := Hf.toBelow hb'
            replace hW := hW.trans (hb'.mono hW.size)
            clear hb'
            have H := Hf.drop (List.nil_sublist _)
            refine OPS.nil ?_
            refine ⟨(by exact H), ?_⟩
            refine OPH.take 7 rfl rfl rfl rfl (by kernel_rfl) (by kernel_rfl) (by kernel_rfl) rfl (by exact H) (fun w H => Ev.build (bld_49_0_1_2_3 rfl rfl rfl rfl)) ?_
            refine OPH.all [8] (by kernel_rfl) (by simp) rfl ?_
            intro i hi; simp only [List.mem_cons, List.not_mem_nil, or_false] at hi
            rcases hi with rfl
            · refine ⟨_, rfl, ?_⟩
              refine OPS.call (d := some 25) rfl rfl rfl (EvC.func (fun_run rfl)) (betterO n l ts ns hd rt s A' c' B' o cb' w (fun x hx => ⟨by subst hx; exact (OwnS.ones (R := _ :: Lo) hOF (Hf.perm (List.Perm.cons _ List.perm_append_comm))).1, hxl x hx⟩) (hOo.ones Hf).1 (by omega)) ?_
              rintro _ w ⟨rfl, hb'⟩
              refine ⟨_, rfl, ?_⟩
              replace Hf := Hf.toBelow hb'
              clear hb'
              have H := Hf.drop (List.nil_sublist _)
              refine OPS.nil ?_
              refine ⟨(by exact H), ?_⟩
              refine OPH.all [9] (by kernel_rfl) (by simp) rfl ?_
              intro i hi; simp only [List.mem_cons, List.not_mem_nil, or_false] at hi
              rcases hi with rfl
              · refine ⟨_, rfl, ?_⟩
                refine OPS.store (vs := fndV n l ts ns hd rt (bet (mvL ns) (secsD n l ts ns hd rt) s (some o)) (if takesB n l ts ns hd rt s o = true then B' else A') (if takesB n l ts ns hd rt s o = true then cb' else c')) 0 _ rfl rfl rfl (size_run rfl) rfl (cA rfl) (fndV_len n l ts ns hd rt _ _ _) (fndV_one n l ts ns hd rt _ _ _) Hf rfl (by rw [fndV_len]; exact Nat.le_refl _) ?_
                clear H Hf; intro w Hf
                have H := Hf.drop (List.nil_sublist _)
                replace Hf : ∃ Lv', VisR n l ts ns hd rt wB g7 (bet (mvL ns) (secsD n l ts ns hd rt) s (some o)) Lv' ∧ SH w0 S w Lv' := by
                  replace Hf : SH w0 S w (⟨g7, 49, putL (fndV n l ts ns hd rt s A' c') 0 (fndV n l ts ns hd rt (bet (mvL ns) (secsD n l ts ns hd rt) s (some o)) (if takesB n l ts ns hd rt s o = true then B' else A') (if takesB n l ts ns hd rt s o = true then cb' else c'))⟩ :: (Lf ++ Lo)) := Hf
                  rw [fndV_put] at Hf
                  have hgeH : ∀ {L : List Blk}, SH w0 S w L → ∀ g ∈ L.map (·.g), wB.heap.size ≤ g := fun {L} H g hg => by
                    obtain ⟨b, hb, rfl⟩ := List.mem_map.1 hg
                    rcases H.may b hb with h | h
                    · exact Nat.le_trans hB.size h
                    · exact hge _ h
                  rw [takes_bet] at Hf ⊢
                  by_cases htk : takesB n l ts ns hd rt s o = true
                  · rw [if_pos htk, if_pos htk, if_pos htk] at Hf
                    rw [if_pos htk]
                    have H2 := Hf.drop (List.Sublist.cons_cons _ (List.sublist_append_right Lf Lo))
                    exact ⟨_, ⟨hgeH H2, fun x hx => by cases hx; omega, B', cb', Lo, rfl, hOo⟩, H2⟩
                  · rw [if_neg htk, if_neg htk, if_neg htk] at Hf
                    rw [if_neg htk]
                    have H2 := Hf.drop (List.Sublist.cons_cons _ (List.sublist_append_left Lf Lo))
                    exact ⟨_, ⟨hgeH H2, hxl, A', c', Lf, rfl, hOF⟩, H2⟩
                refine OPS.nil ?_
                refine ⟨(by exact H), ?_⟩
                refine OPH.done (by kernel_rfl) ?_
                exact ⟨(by repeat (first | exact Agree.refl _ _ | exact Agree.mix _ _ _ | refine Agree.upd rfl ?_ | refine Agree.mix2 rfl ?_)), Hf⟩
      · refine ⟨_, rfl, ?_⟩
        try replace Hf := Hf.toBelow hbw2
        try replace hW := hW.trans (hbw2.mono hW.size)
        refine OPS.call (d := some 19) rfl rfl rfl (EvC.func (fun_run rfl)) (slClone O o co w (ho.below hW) (by omega) hO) ?_
        rintro _ w ⟨B', cb', Lo, rfl, hOo, Hc⟩
        refine ⟨_, rfl, ?_⟩
        replace hW := hW.trans (Hc.below.mono hW.size)
        replace Hf := SH.call (L1 := _ :: Lf) (Lv := []) (by simpa using Hf) Hc
        clear Hc
        have H := Hf.drop (List.nil_sublist _)
        refine OPS.nil ?_
        refine ⟨(by exact H), ?_⟩
        refine OPH.all [0, 5] (by kernel_rfl) (by simp) rfl ?_
        intro i hi; simp only [List.mem_cons, List.not_mem_nil, or_false] at hi
        rcases hi with rfl | rfl
        · refine ⟨_, rfl, ?_⟩
          try replace Hf := Hf.toBelow hbw2
          refine OPS.val rfl rfl rfl (Ev.loadO 0 Hf rfl (agg_run rfl) (size_run rfl) (fndV_len n l ts ns hd rt s A' c') rfl) ?_
          refine OPS.nil ?_
          refine ⟨(by exact H), ?_⟩
          refine OPH.all [5] (by kernel_rfl) (by simp) rfl ?_
          intro i hi; simp only [List.mem_cons, List.not_mem_nil, or_false] at hi
          rcases hi with rfl
          · refine ⟨_, rfl, ?_⟩
            refine OPS.call (d := some 22) rfl rfl rfl (EvC.func (fun_run rfl)) (routeMoved n hd A B C O l ts ns o ca cb cc co w (hn.below (hbel Hf)) hm (ho.below hW) (by omega) hin) ?_
            rintro _ w ⟨rfl, hb'⟩
            refine ⟨_, rfl, ?_⟩
            replace Hf := Hf.toBelow hb'
            replace hW := hW.trans (hb'.mono hW.size)
            clear hb'
            have H := Hf.drop (List.nil_sublist _)
            refine OPS.nil ?_
            refine ⟨(by exact H), ?_⟩
            refine OPH.take 7 rfl rfl rfl rfl (by kernel_rfl) (by kernel_rfl) (by kernel_rfl) rfl (by exact H) (fun w H => Ev.build (bld_49_0_1_2_3 rfl rfl rfl rfl)) ?_
            refine OPH.all [8] (by kernel_rfl) (by simp) rfl ?_
            intro i hi; simp only [List.mem_cons, List.not_mem_nil, or_false] at hi
            rcases hi with rfl
            · refine ⟨_, rfl, ?_⟩
              refine OPS.call (d := some 25) rfl rfl rfl (EvC.func (fun_run rfl)) (betterO n l ts ns hd rt s A' c' B' o cb' w (fun x hx => ⟨by subst hx; exact (OwnS.ones (R := _ :: Lo) hOF (Hf.perm (List.Perm.cons _ List.perm_append_comm))).1, hxl x hx⟩) (hOo.ones Hf).1 (by omega)) ?_
              rintro _ w ⟨rfl, hb'⟩
              refine ⟨_, rfl, ?_⟩
              replace Hf := Hf.toBelow hb'
              clear hb'
              have H := Hf.drop (List.nil_sublist _)
              refine OPS.nil ?_
              refine ⟨(by exact H), ?_⟩
              refine OPH.all [9] (by kernel_rfl) (by simp) rfl ?_
              intro i hi; simp only [List.mem_cons, List.not_mem_nil, or_false] at hi
              rcases hi with rfl
              · refine ⟨_, rfl, ?_⟩
                refine OPS.store (vs := fndV n l ts ns hd rt (bet (mvL ns) (secsD n l ts ns hd rt) s (some o)) (if takesB n l ts ns hd rt s o = true then B' else A') (if takesB n l ts ns hd rt s o = true then cb' else c')) 0 _ rfl rfl rfl (size_run rfl) rfl (cA rfl) (fndV_len n l ts ns hd rt _ _ _) (fndV_one n l ts ns hd rt _ _ _) Hf rfl (by rw [fndV_len]; exact Nat.le_refl _) ?_
                clear H Hf; intro w Hf
                have H := Hf.drop (List.nil_sublist _)
                replace Hf : ∃ Lv', VisR n l ts ns hd rt wB g7 (bet (mvL ns) (secsD n l ts ns hd rt) s (some o)) Lv' ∧ SH w0 S w Lv' := by
                  replace Hf : SH w0 S w (⟨g7, 49, putL (fndV n l ts ns hd rt s A' c') 0 (fndV n l ts ns hd rt (bet (mvL ns) (secsD n l ts ns hd rt) s (some o)) (if takesB n l ts ns hd rt s o = true then B' else A') (if takesB n l ts ns hd rt s o = true then cb' else c'))⟩ :: (Lf ++ Lo)) := Hf
                  rw [fndV_put] at Hf
                  have hgeH : ∀ {L : List Blk}, SH w0 S w L → ∀ g ∈ L.map (·.g), wB.heap.size ≤ g := fun {L} H g hg => by
                    obtain ⟨b, hb, rfl⟩ := List.mem_map.1 hg
                    rcases H.may b hb with h | h
                    · exact Nat.le_trans hB.size h
                    · exact hge _ h
                  rw [takes_bet] at Hf ⊢
                  by_cases htk : takesB n l ts ns hd rt s o = true
                  · rw [if_pos htk, if_pos htk, if_pos htk] at Hf
                    rw [if_pos htk]
                    have H2 := Hf.drop (List.Sublist.cons_cons _ (List.sublist_append_right Lf Lo))
                    exact ⟨_, ⟨hgeH H2, fun x hx => by cases hx; omega, B', cb', Lo, rfl, hOo⟩, H2⟩
                  · rw [if_neg htk, if_neg htk, if_neg htk] at Hf
                    rw [if_neg htk]
                    have H2 := Hf.drop (List.Sublist.cons_cons _ (List.sublist_append_left Lf Lo))
                    exact ⟨_, ⟨hgeH H2, hxl, A', c', Lf, rfl, hOF⟩, H2⟩
                refine OPS.nil ?_
                refine ⟨(by exact H), ?_⟩
                refine OPH.done (by kernel_rfl) ?_
                exact ⟨(by repeat (first | exact Agree.refl _ _ | exact Agree.mix _ _ _ | refine Agree.upd rfl ?_ | refine Agree.mix2 rfl ?_)), Hf⟩
        · refine ⟨_, rfl, ?_⟩
          refine OPS.call (d := some 22) rfl rfl rfl (EvC.func (fun_run rfl)) (routeMoved n hd A B C O l ts ns o ca cb cc co w (hn.below (hbel Hf)) hm (ho.below hW) (by omega) hin) ?_
          rintro _ w ⟨rfl, hb'⟩
          refine ⟨_, rfl, ?_⟩
          replace Hf := Hf.toBelow hb'
          replace hW := hW.trans (hb'.mono hW.size)
          clear hb'
          have H := Hf.drop (List.nil_sublist _)
          refine OPS.nil ?_
          refine ⟨(by exact H), ?_⟩
          refine OPH.take 7 rfl rfl rfl rfl (by kernel_rfl) (by kernel_rfl) (by kernel_rfl) rfl (by exact H) (fun w H => Ev.build (bld_49_0_1_2_3 rfl rfl rfl rfl)) ?_
          refine OPH.all [0] (by kernel_rfl) (by simp) rfl ?_
          intro i hi; simp only [List.mem_cons, List.not_mem_nil, or_false] at hi
          rcases hi with rfl
          · refine ⟨_, rfl, ?_⟩
            try replace Hf := Hf.toBelow hbw2
            refine OPS.val rfl rfl rfl (Ev.loadO 0 Hf rfl (agg_run rfl) (size_run rfl) (fndV_len n l ts ns hd rt s A' c') rfl) ?_
            refine OPS.nil ?_
            refine ⟨(by exact H), ?_⟩
            refine OPH.all [8] (by kernel_rfl) (by simp) rfl ?_
            intro i hi; simp only [List.mem_cons, List.not_mem_nil, or_false] at hi
            rcases hi with rfl
            · refine ⟨_, rfl, ?_⟩
              refine OPS.call (d := some 25) rfl rfl rfl (EvC.func (fun_run rfl)) (betterO n l ts ns hd rt s A' c' B' o cb' w (fun x hx => ⟨by subst hx; exact (OwnS.ones (R := _ :: Lo) hOF (Hf.perm (List.Perm.cons _ List.perm_append_comm))).1, hxl x hx⟩) (hOo.ones Hf).1 (by omega)) ?_
              rintro _ w ⟨rfl, hb'⟩
              refine ⟨_, rfl, ?_⟩
              replace Hf := Hf.toBelow hb'
              clear hb'
              have H := Hf.drop (List.nil_sublist _)
              refine OPS.nil ?_
              refine ⟨(by exact H), ?_⟩
              refine OPH.all [9] (by kernel_rfl) (by simp) rfl ?_
              intro i hi; simp only [List.mem_cons, List.not_mem_nil, or_false] at hi
              rcases hi with rfl
              · refine ⟨_, rfl, ?_⟩
                refine OPS.store (vs := fndV n l ts ns hd rt (bet (mvL ns) (secsD n l ts ns hd rt) s (some o)) (if takesB n l ts ns hd rt s o = true then B' else A') (if takesB n l ts ns hd rt s o = true then cb' else c')) 0 _ rfl rfl rfl (size_run rfl) rfl (cA rfl) (fndV_len n l ts ns hd rt _ _ _) (fndV_one n l ts ns hd rt _ _ _) Hf rfl (by rw [fndV_len]; exact Nat.le_refl _) ?_
                clear H Hf; intro w Hf
                have H := Hf.drop (List.nil_sublist _)
                replace Hf : ∃ Lv', VisR n l ts ns hd rt wB g7 (bet (mvL ns) (secsD n l ts ns hd rt) s (some o)) Lv' ∧ SH w0 S w Lv' := by
                  replace Hf : SH w0 S w (⟨g7, 49, putL (fndV n l ts ns hd rt s A' c') 0 (fndV n l ts ns hd rt (bet (mvL ns) (secsD n l ts ns hd rt) s (some o)) (if takesB n l ts ns hd rt s o = true then B' else A') (if takesB n l ts ns hd rt s o = true then cb' else c'))⟩ :: (Lf ++ Lo)) := Hf
                  rw [fndV_put] at Hf
                  have hgeH : ∀ {L : List Blk}, SH w0 S w L → ∀ g ∈ L.map (·.g), wB.heap.size ≤ g := fun {L} H g hg => by
                    obtain ⟨b, hb, rfl⟩ := List.mem_map.1 hg
                    rcases H.may b hb with h | h
                    · exact Nat.le_trans hB.size h
                    · exact hge _ h
                  rw [takes_bet] at Hf ⊢
                  by_cases htk : takesB n l ts ns hd rt s o = true
                  · rw [if_pos htk, if_pos htk, if_pos htk] at Hf
                    rw [if_pos htk]
                    have H2 := Hf.drop (List.Sublist.cons_cons _ (List.sublist_append_right Lf Lo))
                    exact ⟨_, ⟨hgeH H2, fun x hx => by cases hx; omega, B', cb', Lo, rfl, hOo⟩, H2⟩
                  · rw [if_neg htk, if_neg htk, if_neg htk] at Hf
                    rw [if_neg htk]
                    have H2 := Hf.drop (List.Sublist.cons_cons _ (List.sublist_append_left Lf Lo))
                    exact ⟨_, ⟨hgeH H2, hxl, A', c', Lf, rfl, hOF⟩, H2⟩
                refine OPS.nil ?_
                refine ⟨(by exact H), ?_⟩
                refine OPH.done (by kernel_rfl) ?_
                exact ⟨(by repeat (first | exact Agree.refl _ _ | exact Agree.mix _ _ _ | refine Agree.upd rfl ?_ | refine Agree.mix2 rfl ?_)), Hf⟩
    clear H
    rintro u w ⟨Lv', hR, H⟩
    refine ⟨_, rfl, ?_⟩
    exact ⟨_, rfl, hR, H⟩
  have hfe : ¬ walkE n l ts ns hd rt o = 0 := by simpa using hc1
  have hvis : visB (mvL ns) (secsD n l ts ns hd rt) (feasB n l ts ns hd rt) s o = s := if_neg (by simpa [feasB] using hfe)
  rw [hvis]
  have hR : VisR n l ts ns hd rt wB g7 s (⟨g7, 49, fndV n l ts ns hd rt s A' c'⟩ :: Lf) := ⟨by rw [← hS]; exact hge, hxl, A', c', Lf, rfl, hOF⟩
  refine WP.skip ?_
  refine ⟨_, rfl, ?_⟩
  exact ⟨_, rfl, hR, H⟩
end Go.Proofs.Ytfddebpeiilohaa

/-
  Walks: best; Best.
-/
set_option linter.all false
namespace Go.Proofs.Ytfddebpeiilohaa
open Go Go.W Go.RowKit

theorem bestFun : funT 41 = true := rfl
set_option maxHeartbeats 4000000 in
theorem routeBest (n hd rt : Int) (A B C R : Option Addr) (l : List Edg) (ts : List Truck) (ns : List Need) (rn : List Int) (ca cb cc cr : Nat) (w0 : World) (hz : EdgsAt w0 A l) (ht : RowsAt 4 truckCells w0 B ts) (hn : RowsAt 2 needCells w0 C ns) (hcc : ns.length ≤ cc)
    (hm : ∀ x ∈ ns, -32 ≤ x.move ∧ x.move ≤ 32) (hns : ns.length ≤ 16) (hr : IntsAt w0 R rn) (hrl : rn.length ≤ 16) (hnd : rn.Nodup) (hin : ∀ i ∈ rn, 0 ≤ i ∧ i < ns.length) :
    Calls Try.prog 24 #[.agg #[I n, .slice A l.length ca, .slice B ts.length cb, .slice C ns.length cc, I hd], I rt, .slice R rn.length cr] w0 fun e w' => ∃ s A' c' Lf, e = .returned (.agg (fndV n l ts ns hd rt s A' c').toArray) ∧ IsBest (mvL ns) (secsD n l ts ns hd rt) (fun o => o.Perm rn ∧ walkE n l ts ns hd rt o = 0) s ∧ (∀ x, s = some x → x.length ≤ 1000) ∧ OwnF s A' c' Lf ∧ SH w0 [] w' Lf := by
  have H := SH.refl w0
  refine Calls.ofWPc Try.func24 rfl Try.results24 Try.ntmps24 rfl ?_
  refine WP.seq ?_
  refine WP.region ?_
  refine OPS.box rfl rfl rfl rfl (cA rfl) H ?_
  clear H; intro g3 w H
  refine OPS.box rfl rfl rfl rfl (cI rfl) H ?_
  clear H; intro g4 w H
  refine OPS.alloc rfl rfl rfl rfl (zero_run rfl) rfl H ?_
  clear H; intro g6 w H
  refine OPS.nil ?_
  refine WP.seq ?_
  have H1 := H
  generalize w = wB at *
  replace H := SH.refl wB
  refine WP.region ?_
  refine OPS.alloc rfl rfl rfl rfl (zero_run rfl) rfl H ?_
  clear H; intro g7 w H
  refine OPS.nil ?_
  refine WP.seq ?_
  refine WP.region ?_
  refine OPS.val rfl rfl rfl (Ev.mvS rfl) ?_
  refine OPS.val rfl rfl rfl (Ev.makeFunc) ?_
  refine OPS.call (d := some 10) rfl rfl rfl (EvC.func (fun_run rfl)) (routeOrders (σ := Option (List Int)) (VisR n l ts ns hd rt wB g7) (visB (mvL ns) (secsD n l ts ns hd rt) (feasB n l ts ns hd rt)) 41 [Value.pointer (some ⟨g3, 0, none⟩), Value.pointer (some ⟨g4, 0, none⟩), Value.pointer (some ⟨g7, 0, none⟩)] wB rfl rn (fun s Lv w O o co h1 h2 h3 h4 h5 h6 h7 => routeBestV n hd rt A B C l ts ns ca cb cc g3 g4 g7 wB (hz.sh H1) (ht.sh H1) (hn.sh H1) hcc (cellsAt_own H1 2 rfl _ 0 (fun j hj => by rw [Nat.zero_add]; exact List.getElem?_eq_getElem hj)) (H1.ldL 1 rfl 0 rfl) hm s Lv w O o co h1 h2 h3 h4 h5 h6 (by rw [h7.length_eq]; exact hrl)) R cr w ((hr.sh H1).sh H) hrl hnd (fun x hx => by have := hin x hx; omega) none [⟨g7, 49, fndV n l ts ns hd rt none none 0⟩] ⟨H.fresh, (fun x hx => absurd hx (by simp)), none, 0, [], rfl, rfl⟩ (H.restart (List.Sublist.refl _)) H.below H.fresh) ?_
  rintro _ w ⟨V, Lv', rfl, hV, hR, Hc⟩
  refine ⟨_, rfl, ?_⟩
  have H2 := SH.call (L1 := [_, _, _]) (Lv := []) H1 H
  replace H := SH.call (L1 := [_, _, _]) (Lv := [_]) H2 Hc
  clear Hc H1 H2
  obtain ⟨_, hxl, A', c', Lf, rfl, hOF⟩ := hR
  have hbest := (IsBest.fold (m := mvL ns) (d := secsD n l ts ns hd rt) (F := feasB n l ts ns hd rt) (V := V) IsBest.zero).congr (C' := fun o => o.Perm rn ∧ walkE n l ts ns hd rt o = 0) (fun x => by simp [hV, feasB])
  generalize V.foldl (visB (mvL ns) (secsD n l ts ns hd rt) (feasB n l ts ns hd rt)) none = s at *
  have hlen := fndV_len n l ts ns hd rt s A' c'
  simp only [List.cons_append, List.nil_append] at H
  refine OPS.nil ?_
  refine WP.seq ?_
  refine WP.region ?_
  refine OPS.val rfl rfl rfl (Ev.loadO 3 H rfl (agg_run rfl) (size_run rfl) hlen rfl) ?_
  refine OPS.store (vs := fndV n l ts ns hd rt s A' c') 0 _ rfl rfl rfl (size_run rfl) rfl (cA rfl) hlen (fndV_one n l ts ns hd rt s A' c') H rfl (by simp) ?_
  clear H; intro w H
  replace H : SH w0 [] w (⟨g6, 49, putL (fndV n l ts ns hd rt none none 0) 0 (fndV n l ts ns hd rt s A' c')⟩ :: _) := H
  rw [fndV_put] at H
  refine OPS.nil ?_
  refine WP.ret ⟨[_], ⟨(by exact resCellA 0 H rfl (agg_run rfl) (size_run rfl) (by assumption) rfl), trivial⟩, ?_⟩
  exact ⟨s, A', c', Lf, rfl, hbest, hxl, hOF, H.drop ((((List.Sublist.refl _).cons _).cons _).cons _ |>.cons _)⟩
end Go.Proofs.Ytfddebpeiilohaa
