/-
  Walks: run, for whatever is told of each event.
-/
import Derived.Test.YtchjbjplddhknaaW14
import Derived.Test.YtchjbjplddhknaaW11
import Derived.Test.YtchjbjplddhknaaW8
set_option linter.all false
namespace Go.Proofs.Ytchjbjplddhknaa
open Go Go.W Go.RowKit

/-- a function that is told of each event: LVt j t L says that behind j events its blocks L hold t -/
structure Told {τ : Type} (f : Flt) (vis : τ → Sta → Evt → Int → τ) (LVt : Nat → τ → List Blk → Prop) (q : Bool) (fv : Value) : Prop where
  tag : ∀ {j t L}, LVt j t L → ∀ b ∈ L, b.T ≠ 70 ∧ b.T ≠ 42 ∧ b.T ≠ 104
  skip : ∀ {j t L}, LVt j t L → LVt (j + 1) t L
  no : q = false → fv = .nilFunc ∧ ∀ {j t L σ x er}, LVt j t L → LVt (j + 1) (vis t σ x er) L
  yes : q = true → ∃ fid caps, fv = .func (.func fid) #[] (List.toArray caps) ∧ funT fid = true ∧ ∀ {j t L l σ tg w} (x : Evt) (er : Int), j < 1000 → LVt j t L → Rep w l σ tg → l.f = f → OffS l σ tg (L.map (·.g)) → SH w (L.map (·.g)) w L →
    Calls Try.prog fid (List.toArray ([.pointer (some ⟨l.gS, 0, none⟩), .agg (evC x).toArray, I er] ++ caps)) w fun e w' => ∃ L', e = .returned (.tuple #[]) ∧ LVt (j + 1) (vis t σ x er) L' ∧ SH w (L.map (·.g)) w' L'
theorem run {τ : Type} (f : Flt) (vis : τ → Sta → Evt → Int → τ) (LVt : Nat → τ → List Blk → Prop) (q : Bool) (fv : Value) (hV : Told f vis LVt q fv) (t0 : τ) (A : Option Addr) (ca : Nat) (B : Option Addr) (cb : Nat) (El : Option Addr) (es : List Evt) (ce : Nat) (L0 : List Blk) (w0 : World)
    (hf : FlAt w0 f A B) (hfA : f.ds ≠ [] → Off A (L0.map (·.g))) (hfB : f.ts ≠ [] → Off B (L0.map (·.g))) (hz : RowsAt 9 evC w0 El es) (hzO : es ≠ [] → Off El (L0.map (·.g))) (hok : EvOk es) (hfit : ∀ x ∈ es, fits x.p) (hl : es.length ≤ 1000) (hE : El = none → ce = 0) (hL0 : LVt 0 t0 L0) (H : SH w0 (L0.map (·.g)) w0 L0) :
    Calls Try.prog 18 #[.agg (flC f A ca B cb).toArray, .slice El es.length ce, fv] w0 fun e w' =>
      (flErr f ≠ 0 ∧ e = .returned (.tuple #[.pointer none, I (flErr f)]) ∧ SH w0 (L0.map (·.g)) w' L0) ∨
      (flErr f = 0 ∧ ∃ l tg L', l.f = f ∧ e = .returned (.tuple #[.pointer (some ⟨l.gS, 0, none⟩), I 0]) ∧ LVt es.length (runG f vis t0 es).2 L' ∧ SH w0 (L0.map (·.g)) w' L' ∧ Rep w' l (runG f vis t0 es).1 tg) := by
  generalize hSV : L0.map (·.g) = SV at hfA hfB hzO H ⊢
  unfold flC
  refine Calls.ofWP Try.func18 rfl Try.results18 Try.ntmps18 rfl ?_
  refine WP.seq ?_
  refine WP.region ?_
  refine OPS.box rfl rfl rfl rfl (cA rfl) H ?_
  clear H; intro g3 w H
  refine OPS.val rfl rfl rfl (Ev.asP rfl) ?_
  refine OPS.val rfl rfl rfl (Ev.asI rfl) ?_
  refine OPS.nil ?_
  refine WP.seq ?_
  refine WP.seq ?_
  refine WP.region ?_
  refine OPS.val rfl rfl rfl ((by first | exact Ev.loadO 0 H rfl (agg_run rfl) (size_run rfl) (by first | assumption | rfl) rfl | exact Ev.loadO 1 H rfl (agg_run rfl) (size_run rfl) (by first | assumption | rfl) rfl | exact Ev.loadO 2 H rfl (agg_run rfl) (size_run rfl) (by first | assumption | rfl) rfl | exact Ev.loadO 3 H rfl (agg_run rfl) (size_run rfl) (by first | assumption | rfl) rfl | exact Ev.loadO 4 H rfl (agg_run rfl) (size_run rfl) (by first | assumption | rfl) rfl | exact Ev.loadO 5 H rfl (agg_run rfl) (size_run rfl) (by first | assumption | rfl) rfl | exact Ev.loadO 6 H rfl (agg_run rfl) (size_run rfl) (by first | assumption | rfl) rfl | (change Ev _ _ _ _ (Op.load 24 (Operand.tmp 3)) _; fail))) ?_
  refine OPS.call (d := some 14) rfl rfl rfl (EvC.func (fun_run rfl)) (eventFleet f A ca B cb _ (hf.shO hfA hfB H)) ?_
  rintro _ w ⟨rfl, hb⟩
  refine ⟨_, rfl, ?_⟩
  replace H := H.toBelow hb; clear hb
  refine OPS.val rfl rfl rfl (Ev.asI rfl) ?_
  refine OPS.nil ?_
  refine WP.seq ?_
  refine WP.region ?_
  refine OPS.val rfl rfl rfl (Ev.mvI rfl) ?_
  refine OPS.val rfl rfl rfl (Ev.neq rfl rfl) ?_
  refine OPS.nil ?_
  refine WP.cond rfl (fun hc2 => ?_) (fun hc2 => ?_)
  · refine WP.seq ?_
    refine WP.region ?_
    refine OPS.val rfl rfl rfl (Ev.mvI rfl) ?_
    refine OPS.val rfl rfl rfl (Ev.asP rfl) ?_
    refine OPS.val rfl rfl rfl (Ev.asI rfl) ?_
    refine OPS.nil ?_
    refine WP.ret ⟨_, rfl, ?_⟩
    have h0 : flErr f ≠ 0 := by simpa using hc2
    exact .inl ⟨h0, rfl, H.drop (List.sublist_cons_self _ _)⟩
  have h0 : flErr f = 0 := by simpa using hc2
  obtain ⟨n, hbn, hn2⟩ : ∃ n : Nat, f.bk = n ∧ n ≤ 128 := by
    have h := h0
    rw [flErr] at h
    split at h
    · cases h
    · rename_i hn
      have hb : 1 ≤ f.bk ∧ f.bk ≤ 128 := by simp [wIn, and_assoc] at hn; omega
      exact ⟨f.bk.toNat, by omega, by omega⟩
  refine WP.skip ?_
  refine WP.seq ?_
  refine WP.region ?_
  refine OPS.val rfl rfl rfl ((by first | exact Ev.loadO 0 H rfl (agg_run rfl) (size_run rfl) (by first | assumption | rfl) rfl | exact Ev.loadO 1 H rfl (agg_run rfl) (size_run rfl) (by first | assumption | rfl) rfl | exact Ev.loadO 2 H rfl (agg_run rfl) (size_run rfl) (by first | assumption | rfl) rfl | exact Ev.loadO 3 H rfl (agg_run rfl) (size_run rfl) (by first | assumption | rfl) rfl | exact Ev.loadO 4 H rfl (agg_run rfl) (size_run rfl) (by first | assumption | rfl) rfl | exact Ev.loadO 5 H rfl (agg_run rfl) (size_run rfl) (by first | assumption | rfl) rfl | exact Ev.loadO 6 H rfl (agg_run rfl) (size_run rfl) (by first | assumption | rfl) rfl | (change Ev _ _ _ _ (Op.load 24 (Operand.tmp 3)) _; fail))) ?_
  refine OPS.call (d := some 19) rfl rfl rfl (EvC.func (fun_run rfl)) (begin f A ca B cb n hbn hn2 _) ?_
  rintro _ w ⟨gS, gP, gO, gU, rfl, nOU, lO, lU, MO, MU, Hc⟩
  refine ⟨_, rfl, ?_⟩
  have H1 := H.toBelow Hc.below
  have hR : Rep w ⟨f, A, ca, B, cb, gS, gP, gO, gU, w0.heap.size⟩ (beg f) (fun _ => 0) := Rep.first hf hbn hn2 H1 hfA hfB H.size nOU lO lU MO MU Hc
  clear H MO MU; have H := H1; clear H1 Hc
  refine OPS.val rfl rfl rfl (Ev.asP rfl) ?_
  refine OPS.nil ?_
  refine WP.seq ?_
  refine WP.seq ?_
  refine WP.region ?_
  refine OPS.val rfl rfl rfl (Ev.mvS rfl) ?_
  refine OPS.call (d := some 21) rfl rfl rfl (EvC.func (fun_run rfl)) (evSet El es ce _ (rowsO hz hzO H) hok hl hE) ?_
  rintro _ w ⟨A', c, Lz, rfl, hO, Hc⟩
  refine ⟨_, rfl, ?_⟩
  replace hR := hR.sh Hc
  replace H := SH.call (Lv := []) (by rw [List.append_nil]; exact H) Hc
  replace H : SH w0 SV w ((⟨g3, 24, flC f A ca B cb⟩ :: Lz) ++ L0) := H.perm (List.Perm.cons _ List.perm_append_comm)
  refine OPS.val rfl rfl rfl (Ev.len (el_run rfl) rfl) ?_
  refine OPS.val rfl rfl rfl (Ev.mvI rfl) ?_
  refine OPS.nil ?_
  refine WP.block ?_
  refine WP.loop [11, 12, 23, 24, 25, 26, 27, 28, 29, 30, 31, 32, 33, 34, 35, 36, 37, 38, 39, 40, 41, 42, 43, 44, 45, 46, 47, 48, 49, 50, 51, 52, 53, 54] (fun k e w' => ∃ (j : Nat) (t : τ) (σ : Sta) (tg : Nat → Nat) (LV : List Blk), j + k = es.length ∧ e 23 = I j ∧ (σ, t) = runG f vis t0 (es.take j) ∧ Inv σ ∧ Rep w' ⟨f, A, ca, B, cb, gS, gP, gO, gU, w0.heap.size⟩ σ tg ∧ LVt j t LV ∧ SH w0 SV w' ((⟨g3, 24, flC f A ca B cb⟩ :: Lz) ++ LV)) (es.length) (⟨0, t0, beg f, _, L0, by omega, rfl, rfl, Inv.beg f, hR, hL0, H⟩) ?_
  clear H hR
  rintro k u wh ⟨j, t, σ, tg, LV, hk, h23, hst, hI, hR, hLV, H⟩
  refine WP.know (t := 23) h23 ?_
  have hj0 : es.length = j → (σ, t) = runG f vis t0 es := fun he => by rw [hst, ← he, List.take_length]
  refine WP.seq ?_
  refine WP.region ?_
  refine OPS.val rfl rfl rfl (Ev.lss rfl rfl) ?_
  refine OPS.nil ?_
  refine WP.seq ?_
  refine WP.cond rfl (fun hc6 => ?_) (fun hc6 => ?_)
  · have hlt : j < es.length := by have h := of_decide_eq_true hc6; omega
    have hstep := runG_succ (f := f) (vis := vis) (t0 := t0) hlt
    obtain ⟨x, hx⟩ : ∃ x, x = es[j] := ⟨_, rfl⟩
    have hfx : fits x.p := hfit x (hx ▸ List.getElem_mem hlt)
    rw [← hst, ← hx] at hstep
    have htg : ∀ b ∈ (⟨g3, 24, flC f A ca B cb⟩ :: Lz) ++ LV, b.T ≠ 70 ∧ b.T ≠ 42 ∧ b.T ≠ 104 := by
      intro b hb
      rcases List.mem_append.1 hb with hb | hb
      · rcases List.mem_cons.1 hb with rfl | hb
        · simp
        · rw [OwnS.tagE hO b hb]; simp
      · exact hV.tag hLV b hb
    have hOff := hR.offT H htg
    have HB := H
    have hfw : ∀ {w2 : World} {L2 : List Blk}, SH wh (((⟨g3, 24, flC f A ca B cb⟩ :: Lz) ++ LV).map (·.g)) w2 L2 → FlAt w2 f A B := fun H2 => hf.shO hfA hfB (SH.cont HB H2)
    have hRw : ∀ {w2 : World} {L2 : List Blk}, SH wh (((⟨g3, 24, flC f A ca B cb⟩ :: Lz) ++ LV).map (·.g)) w2 L2 → Rep w2 ⟨f, A, ca, B, cb, gS, gP, gO, gU, w0.heap.size⟩ σ tg := fun H2 => hR.keep H2 hOff (hfw H2)
    replace H := H.restart (List.Sublist.refl _)
    obtain ⟨bx, ox, rfl, hxc⟩ := OwnS.rowsE hO H (fun b hb => by simp [hb]) j hlt
    rw [← hx] at hxc
    have hxc : ∀ {w2 : World} {L2 : List Blk}, SH wh (((⟨g3, 24, flC f A ca B cb⟩ :: Lz) ++ LV).map (·.g)) w2 (L2 ++ ((⟨g3, 24, flC f A ca B cb⟩ :: Lz) ++ LV)) → cellsAt w2 bx (ox + j * 9) (evC x) := fun {w2 L2} H2 => by
      obtain ⟨b', o', e', h'⟩ := OwnS.rowsE hO H2 (fun b hb => by simp [hb]) j hlt
      cases e'
      rw [← hx] at h'
      exact h'
    refine WP.skip ?_
    refine WP.seq ?_
    refine WP.block ?_
    refine WP.seq ?_
    refine WP.region ?_
    refine OPS.val rfl rfl rfl ((by first | exact Ev.indexAddr1 (el_run rfl) (size_run rfl) rfl rfl rfl (by omega) | exact Ev.indexAddr (el_run rfl) (size_run rfl) rfl rfl rfl (by omega))) ?_
    refine OPS.val rfl rfl rfl ((by first | exact Ev.loadO 0 H rfl (agg_run rfl) (size_run rfl) (by first | assumption | rfl) rfl | exact Ev.loadO 1 H rfl (agg_run rfl) (size_run rfl) (by first | assumption | rfl) rfl | exact Ev.loadO 2 H rfl (agg_run rfl) (size_run rfl) (by first | assumption | rfl) rfl | exact Ev.loadO 3 H rfl (agg_run rfl) (size_run rfl) (by first | assumption | rfl) rfl | exact Ev.loadO 4 H rfl (agg_run rfl) (size_run rfl) (by first | assumption | rfl) rfl | exact Ev.loadO 5 H rfl (agg_run rfl) (size_run rfl) (by first | assumption | rfl) rfl | exact Ev.loadO 6 H rfl (agg_run rfl) (size_run rfl) (by first | assumption | rfl) rfl | (change Ev _ _ _ _ (Op.load 56 (Operand.tmp 25)) _; exact Ev.loadN (evC x) (agg_run rfl) (size_run rfl) rfl (hxc (L2 := []) H)))) ?_
    refine OPS.alloc rfl rfl rfl rfl (zero_run rfl) rfl H ?_
    clear H; intro g11 w H
    first | refine OPS.store 0 _ rfl rfl rfl (size_run rfl) rfl (cA rfl) rfl rfl H rfl (by simp) ?_ | refine OPS.store 1 _ rfl rfl rfl (size_run rfl) rfl (cA rfl) rfl rfl H rfl (by simp) ?_ | refine OPS.store 2 _ rfl rfl rfl (size_run rfl) rfl (cA rfl) rfl rfl H rfl (by simp) ?_ | refine OPS.store 3 _ rfl rfl rfl (size_run rfl) rfl (cA rfl) rfl rfl H rfl (by simp) ?_ | refine OPS.store 4 _ rfl rfl rfl (size_run rfl) rfl (cA rfl) rfl rfl H rfl (by simp) ?_ | refine OPS.store 5 _ rfl rfl rfl (size_run rfl) rfl (cA rfl) rfl rfl H rfl (by simp) ?_ | refine OPS.store 6 _ rfl rfl rfl (size_run rfl) rfl (cA rfl) rfl rfl H rfl (by simp) ?_ | refine OPS.store 7 _ rfl rfl rfl (size_run rfl) rfl (cA rfl) rfl rfl H rfl (by simp) ?_ | refine OPS.store 8 _ rfl rfl rfl (size_run rfl) rfl (cA rfl) rfl rfl H rfl (by simp) ?_
    clear H; intro w H; try simp only [List.set_cons_zero, List.set_cons_succ, putL, Nat.zero_add] at H
    refine OPS.nil ?_
    replace H : SH _ _ w (⟨g11, 56, evC x⟩ :: ((⟨g3, 24, flC f A ca B cb⟩ :: Lz) ++ LV)) := H
    refine WP.seq ?_
    refine WP.region ?_
    refine OPS.val rfl rfl rfl ((by first | exact Ev.loadO 0 H rfl (agg_run rfl) (size_run rfl) (by first | assumption | rfl) rfl | exact Ev.loadO 1 H rfl (agg_run rfl) (size_run rfl) (by first | assumption | rfl) rfl | exact Ev.loadO 2 H rfl (agg_run rfl) (size_run rfl) (by first | assumption | rfl) rfl | exact Ev.loadO 3 H rfl (agg_run rfl) (size_run rfl) (by first | assumption | rfl) rfl | exact Ev.loadO 4 H rfl (agg_run rfl) (size_run rfl) (by first | assumption | rfl) rfl | exact Ev.loadO 5 H rfl (agg_run rfl) (size_run rfl) (by first | assumption | rfl) rfl | exact Ev.loadO 6 H rfl (agg_run rfl) (size_run rfl) (by first | assumption | rfl) rfl | (change Ev _ _ _ _ (Op.load 24 (Operand.tmp 3)) _; fail))) ?_
    refine OPS.val rfl rfl rfl ((by first | exact Ev.loadO 0 H rfl (agg_run rfl) (size_run rfl) (by first | assumption | rfl) rfl | exact Ev.loadO 1 H rfl (agg_run rfl) (size_run rfl) (by first | assumption | rfl) rfl | exact Ev.loadO 2 H rfl (agg_run rfl) (size_run rfl) (by first | assumption | rfl) rfl | exact Ev.loadO 3 H rfl (agg_run rfl) (size_run rfl) (by first | assumption | rfl) rfl | exact Ev.loadO 4 H rfl (agg_run rfl) (size_run rfl) (by first | assumption | rfl) rfl | exact Ev.loadO 5 H rfl (agg_run rfl) (size_run rfl) (by first | assumption | rfl) rfl | exact Ev.loadO 6 H rfl (agg_run rfl) (size_run rfl) (by first | assumption | rfl) rfl | (change Ev _ _ _ _ (Op.load 56 (Operand.tmp 11)) _; fail))) ?_
    refine OPS.call (d := some 29) rfl rfl rfl (EvC.func (fun_run rfl)) (eventCheck f x A ca B cb _ (hfw H) hfx) ?_
    rintro _ w ⟨rfl, hb⟩
    refine ⟨_, rfl, ?_⟩
    replace H := H.toBelow hb; clear hb
    refine OPS.val rfl rfl rfl (Ev.asI rfl) ?_
    refine OPS.nil ?_
    refine WP.seq ?_
    refine WP.seq ?_
    refine WP.region ?_
    refine OPS.val rfl rfl rfl (Ev.mvI rfl) ?_
    refine OPS.val rfl rfl rfl (Ev.eql rfl rfl) ?_
    refine OPS.val rfl rfl rfl (Ev.mvB rfl) ?_
    refine OPS.gval rfl rfl rfl rfl rfl (fun hg => Ev.fieldAddr (fld_run rfl) (by first | rfl | exact gvE hg rfl)) ?_
    refine OPS.gval rfl rfl rfl rfl rfl (fun hg => Ev.load1 (agg_run rfl) (by first | rfl | exact gvE hg rfl) (by first | exact H.ldL 0 rfl _ rfl | exact H.ldL 1 rfl _ rfl | exact H.ldL 2 rfl _ rfl | exact H.ldL 3 rfl _ rfl | exact H.ldL 4 rfl _ rfl | exact H.ldL 5 rfl _ rfl | exact H.ldL 6 rfl _ rfl | exact H.ldL 7 rfl _ rfl | exact H.ld0 (by assumption) | assumption | exact H.ldS (by assumption) (by assumption))) ?_
    refine OPS.gval rfl rfl rfl rfl rfl (fun hg => Ev.eql (by first | rfl | exact gvE hg rfl) (by first | rfl | exact gvE hg rfl)) ?_
    refine OPS.val rfl rfl rfl ((by first | exact Ev.pickOr rfl rfl rfl | exact Ev.pickAnd rfl rfl rfl)) ?_
    refine OPS.nil ?_
    refine WP.cond rfl (fun hc9 => ?_) (fun hc9 => ?_)
    · have hbeat : chk f x = 0 ∧ x.k = 10 := by simpa using hc9
      have HF : ∃ t' σ' tg' LV', (σ', t') = runG f vis t0 (es.take (j + 1)) ∧ Inv σ' ∧ Rep w ⟨f, A, ca, B, cb, gS, gP, gO, gU, w0.heap.size⟩ σ' tg' ∧ LVt (j + 1) t' LV' ∧ SH w0 SV w ((⟨g3, 24, flC f A ca B cb⟩ :: Lz) ++ LV') :=
        ⟨t, σ, tg, LV, by rw [hstep, stG_beat hbeat.1 hbeat.2], hI, hRw H, hV.skip hLV, (SH.cont HB H).drop (List.sublist_cons_self _ _)⟩
      refine WP.exit ?_
      refine XB.hit ?_
      refine WP.region ?_
      refine OPS.val rfl rfl rfl (Ev.add rfl rfl (by unfold fits; omega)) ?_
      refine OPS.val rfl rfl rfl (Ev.mvI rfl) ?_
      refine OPS.nil ?_
      obtain ⟨t', σ', tg', LV', f1, f2, f3, f4, f5⟩ := HF
      exact ⟨(by repeat (first | exact Agree.refl _ _ | exact Agree.mix _ _ _ | refine Agree.upd rfl ?_ | refine Agree.mix2 rfl ?_)), k - 1, by omega, j + 1, t', σ', tg', LV', by omega, rfl, f1, f2, f3, f4, f5⟩
    have hnb : ¬ (chk f x = 0 ∧ x.k = 10) := by
      rintro ⟨h1, h2⟩
      simp [h1, h2] at hc9
    rw [stG_else hnb] at hstep
    refine WP.skip ?_
    refine WP.seq ?_
    refine WP.seq ?_
    refine WP.region ?_
    refine OPS.val rfl rfl rfl (Ev.mvI rfl) ?_
    refine OPS.val rfl rfl rfl (Ev.eql rfl rfl) ?_
    refine OPS.nil ?_
    refine WP.cut [12, 39, 40, 41] (fun e w' => e 12 = I (errS f σ x) ∧ SH wh (((⟨g3, 24, flC f A ca B cb⟩ :: Lz) ++ LV).map (·.g)) w' (⟨g11, 56, evC x⟩ :: ((⟨g3, 24, flC f A ca B cb⟩ :: Lz) ++ LV))) ?_ ?_
    · refine WP.cond rfl (fun hc10 => ?_) (fun hc10 => ?_)
      · have hchk : chk f x = 0 := by simpa using hc10
        refine WP.region ?_
        refine OPS.val rfl rfl rfl (Ev.mvP rfl) ?_
        refine OPS.val rfl rfl rfl ((by first | exact Ev.loadO 0 H rfl (agg_run rfl) (size_run rfl) (by first | assumption | rfl) rfl | exact Ev.loadO 1 H rfl (agg_run rfl) (size_run rfl) (by first | assumption | rfl) rfl | exact Ev.loadO 2 H rfl (agg_run rfl) (size_run rfl) (by first | assumption | rfl) rfl | exact Ev.loadO 3 H rfl (agg_run rfl) (size_run rfl) (by first | assumption | rfl) rfl | exact Ev.loadO 4 H rfl (agg_run rfl) (size_run rfl) (by first | assumption | rfl) rfl | exact Ev.loadO 5 H rfl (agg_run rfl) (size_run rfl) (by first | assumption | rfl) rfl | exact Ev.loadO 6 H rfl (agg_run rfl) (size_run rfl) (by first | assumption | rfl) rfl | (change Ev _ _ _ _ (Op.load 56 (Operand.tmp 11)) _; fail))) ?_
        refine OPS.call (d := some 41) rfl rfl rfl (EvC.func (fun_run rfl)) (checkS ⟨f, A, ca, B, cb, gS, gP, gO, gU, w0.heap.size⟩ σ tg x _ (hRw H) hchk) ?_
        rintro _ w ⟨rfl, hb⟩
        refine ⟨_, rfl, ?_⟩
        replace H := H.toBelow hb; clear hb
        refine OPS.val rfl rfl rfl (Ev.asI rfl) ?_
        refine OPS.nil ?_
        first
          | exact ⟨(by repeat (first | exact Agree.refl _ _ | exact Agree.mix _ _ _ | refine Agree.upd rfl ?_ | refine Agree.mix2 rfl ?_)), congrArg I (by show chkS f σ x = errS f σ x; rw [errS, if_pos hchk]), H⟩
          | exact ⟨(by repeat (first | exact Agree.refl _ _ | exact Agree.mix _ _ _ | refine Agree.upd rfl ?_ | refine Agree.mix2 rfl ?_)), congrArg I (by show chk f x = errS f σ x; rw [errS, if_neg hchk]), H⟩
      have hchk : chk f x ≠ 0 := by simpa using hc10
      refine WP.skip ?_
      first
        | exact ⟨(by repeat (first | exact Agree.refl _ _ | exact Agree.mix _ _ _ | refine Agree.upd rfl ?_ | refine Agree.mix2 rfl ?_)), congrArg I (by show chkS f σ x = errS f σ x; rw [errS, if_pos hchk]), H⟩
        | exact ⟨(by repeat (first | exact Agree.refl _ _ | exact Agree.mix _ _ _ | refine Agree.upd rfl ?_ | refine Agree.mix2 rfl ?_)), congrArg I (by show chk f x = errS f σ x; rw [errS, if_neg hchk]), H⟩
    clear H
    rintro u2 w ⟨h12, H⟩
    refine WP.know (t := 12) h12 ?_
    refine WP.seq ?_
    refine WP.seq ?_
    refine WP.region ?_
    refine OPS.val rfl rfl rfl (Ev.mvI rfl) ?_
    refine OPS.val rfl rfl rfl (Ev.eql rfl rfl) ?_
    refine OPS.nil ?_
    refine WP.cut [44, 45, 46] (fun e w' => ∃ tg', Rep w' ⟨f, A, ca, B, cb, gS, gP, gO, gU, w0.heap.size⟩ (stepS f σ x) tg' ∧ SH w0 SV w' (⟨g11, 56, evC x⟩ :: ((⟨g3, 24, flC f A ca B cb⟩ :: Lz) ++ LV))) ?_ ?_
    · refine WP.cond rfl (fun hc12 => ?_) (fun hc12 => ?_)
      · have he0 : errS f σ x = 0 := by simpa using hc12
        have he1 := errS_zero.1 he0
        refine WP.region ?_
        refine OPS.val rfl rfl rfl (Ev.mvP rfl) ?_
        refine OPS.val rfl rfl rfl ((by first | exact Ev.loadO 0 H rfl (agg_run rfl) (size_run rfl) (by first | assumption | rfl) rfl | exact Ev.loadO 1 H rfl (agg_run rfl) (size_run rfl) (by first | assumption | rfl) rfl | exact Ev.loadO 2 H rfl (agg_run rfl) (size_run rfl) (by first | assumption | rfl) rfl | exact Ev.loadO 3 H rfl (agg_run rfl) (size_run rfl) (by first | assumption | rfl) rfl | exact Ev.loadO 4 H rfl (agg_run rfl) (size_run rfl) (by first | assumption | rfl) rfl | exact Ev.loadO 5 H rfl (agg_run rfl) (size_run rfl) (by first | assumption | rfl) rfl | exact Ev.loadO 6 H rfl (agg_run rfl) (size_run rfl) (by first | assumption | rfl) rfl | (change Ev _ _ _ _ (Op.load 56 (Operand.tmp 11)) _; fail))) ?_
        refine OPS.call (d := some 46) rfl rfl rfl (EvC.func (fun_run rfl)) (doneS ⟨f, A, ca, B, cb, gS, gP, gO, gU, w0.heap.size⟩ σ tg x _ (hRw H) he1.1 he1.2 hI.us) ?_
        rintro _ w ⟨rfl, S2, tg2, Hc, hg0, hgS, hR2⟩
        refine ⟨_, rfl, ?_⟩
        have H0 := SH.cont HB H
        have hOffx := (hRw H).offT H0 (by
          intro b hb
          rcases List.mem_cons.1 hb with rfl | hb
          · simp
          · exact htg b hb)
        have hd : ∀ g ∈ S2, (w0.heap.size ≤ g ∨ g ∈ SV) ∧ g ∉ (⟨g11, 56, evC x⟩ :: ((⟨g3, 24, flC f A ca B cb⟩ :: Lz) ++ LV)).map (·.g) := fun g hg => ⟨.inl (hg0 g hg), fun hm => by
          rcases hgS g hg with h1 | h1
          · obtain ⟨b, hb, rfl⟩ := List.mem_map.1 hm
            have := H0.lt hb; omega
          · exact (hOffx g hm).2 h1⟩
        replace H := SH.back H0 Hc hd
        rw [List.nil_append] at H
        refine OPS.nil ?_
        first
          | exact ⟨(by repeat (first | exact Agree.refl _ _ | exact Agree.mix _ _ _ | refine Agree.upd rfl ?_ | refine Agree.mix2 rfl ?_)), tg2, by rw [stepS_yes he0]; exact hR2, H⟩
          | exact ⟨(by repeat (first | exact Agree.refl _ _ | exact Agree.mix _ _ _ | refine Agree.upd rfl ?_ | refine Agree.mix2 rfl ?_)), tg, by rw [stepS_no he0]; exact hRw H, SH.cont HB H⟩
      have he0 : errS f σ x ≠ 0 := by simpa using hc12
      refine WP.skip ?_
      first
        | exact ⟨(by repeat (first | exact Agree.refl _ _ | exact Agree.mix _ _ _ | refine Agree.upd rfl ?_ | refine Agree.mix2 rfl ?_)), tg2, by rw [stepS_yes he0]; exact hR2, H⟩
        | exact ⟨(by repeat (first | exact Agree.refl _ _ | exact Agree.mix _ _ _ | refine Agree.upd rfl ?_ | refine Agree.mix2 rfl ?_)), tg, by rw [stepS_no he0]; exact hRw H, SH.cont HB H⟩
    clear H
    rintro u3 w ⟨tg2, hR2, H⟩
    have hI2 : Inv (stepS f σ x) := hI.stepS hR.len
    have hOff2 := hR2.offT (H.drop ((List.sublist_append_right _ _).trans (List.sublist_cons_self _ _))) (hV.tag hLV)
    refine WP.seq ?_
    refine WP.region ?_
    refine OPS.val (v := fv) rfl rfl rfl Ev.move ?_
    refine OPS.val rfl rfl rfl (Ev.neqFq (q := q) Try.runUnderlying71 rfl rfl (by
      cases q with
      | false => exact .inl ⟨rfl, (hV.no rfl).1⟩
      | true => obtain ⟨fid, caps, h1, _⟩ := hV.yes rfl; exact .inr ⟨rfl, _, _, _, h1⟩)) ?_
    refine OPS.nil ?_
    refine WP.cond rfl (fun hc14 => ?_) (fun hc14 => ?_)
    · obtain ⟨fid, caps, hfv, hft, hcall⟩ := hV.yes hc14
      have hcall := fun (w : World) (er : Int) => hcall (l := ⟨f, A, ca, B, cb, gS, gP, gO, gU, w0.heap.size⟩) (σ := stepS f σ x) (tg := tg2) (w := w) x er (show j < 1000 by omega) hLV
      subst hfv
      refine WP.region ?_
      refine OPS.val rfl rfl rfl (Ev.mvF rfl) ?_
      refine OPS.val rfl rfl rfl (Ev.mvP rfl) ?_
      refine OPS.val rfl rfl rfl ((by first | exact Ev.loadO 0 H rfl (agg_run rfl) (size_run rfl) (by first | assumption | rfl) rfl | exact Ev.loadO 1 H rfl (agg_run rfl) (size_run rfl) (by first | assumption | rfl) rfl | exact Ev.loadO 2 H rfl (agg_run rfl) (size_run rfl) (by first | assumption | rfl) rfl | exact Ev.loadO 3 H rfl (agg_run rfl) (size_run rfl) (by first | assumption | rfl) rfl | exact Ev.loadO 4 H rfl (agg_run rfl) (size_run rfl) (by first | assumption | rfl) rfl | exact Ev.loadO 5 H rfl (agg_run rfl) (size_run rfl) (by first | assumption | rfl) rfl | exact Ev.loadO 6 H rfl (agg_run rfl) (size_run rfl) (by first | assumption | rfl) rfl | (change Ev _ _ _ _ (Op.load 56 (Operand.tmp 11)) _; fail))) ?_
      refine OPS.val rfl rfl rfl (Ev.mvI rfl) ?_
      refine OPS.call (d := some 53) rfl rfl rfl (EvC.clos rfl (fun_run (by first | rfl | assumption))) (hcall w (errS f σ x) hR2 rfl hOff2 (H.restart (Lv := LV) ((List.sublist_append_right _ _).trans (List.sublist_cons_self _ _)))) ?_
      rintro _ w ⟨LV', rfl, hLV', Hc⟩
      refine ⟨_, rfl, ?_⟩
      replace H : SH w0 SV w ((⟨g11, 56, evC x⟩ :: (⟨g3, 24, flC f A ca B cb⟩ :: Lz)) ++ LV') := SH.call (L1 := ⟨g11, 56, evC x⟩ :: (⟨g3, 24, flC f A ca B cb⟩ :: Lz)) (Lv := LV) H Hc
      have HF : ∃ t' σ' tg' LV', (σ', t') = runG f vis t0 (es.take (j + 1)) ∧ Inv σ' ∧ Rep w ⟨f, A, ca, B, cb, gS, gP, gO, gU, w0.heap.size⟩ σ' tg' ∧ LVt (j + 1) t' LV' ∧ SH w0 SV w ((⟨g3, 24, flC f A ca B cb⟩ :: Lz) ++ LV') :=
        ⟨_, _, tg2, LV', by rw [hstep], hI2, hR2.keep Hc hOff2 (hf.shO hfA hfB H), hLV', H.drop (List.sublist_cons_self _ _)⟩
      refine OPS.nil ?_
      refine WP.region ?_
      refine OPS.val rfl rfl rfl (Ev.add rfl rfl (by unfold fits; omega)) ?_
      refine OPS.val rfl rfl rfl (Ev.mvI rfl) ?_
      refine OPS.nil ?_
      obtain ⟨t', σ', tg', LV', f1, f2, f3, f4, f5⟩ := HF
      exact ⟨(by repeat (first | exact Agree.refl _ _ | exact Agree.mix _ _ _ | refine Agree.upd rfl ?_ | refine Agree.mix2 rfl ?_)), k - 1, by omega, j + 1, t', σ', tg', LV', by omega, rfl, f1, f2, f3, f4, f5⟩
    have HF : ∃ t' σ' tg' LV', (σ', t') = runG f vis t0 (es.take (j + 1)) ∧ Inv σ' ∧ Rep w ⟨f, A, ca, B, cb, gS, gP, gO, gU, w0.heap.size⟩ σ' tg' ∧ LVt (j + 1) t' LV' ∧ SH w0 SV w ((⟨g3, 24, flC f A ca B cb⟩ :: Lz) ++ LV') :=
      ⟨_, _, tg2, LV, by rw [hstep], hI2, hR2, (hV.no hc14).2 hLV, H.drop (List.sublist_cons_self _ _)⟩
    refine WP.skip ?_
    refine WP.region ?_
    refine OPS.val rfl rfl rfl (Ev.add rfl rfl (by unfold fits; omega)) ?_
    refine OPS.val rfl rfl rfl (Ev.mvI rfl) ?_
    refine OPS.nil ?_
    obtain ⟨t', σ', tg', LV', f1, f2, f3, f4, f5⟩ := HF
    exact ⟨(by repeat (first | exact Agree.refl _ _ | exact Agree.mix _ _ _ | refine Agree.upd rfl ?_ | refine Agree.mix2 rfl ?_)), k - 1, by omega, j + 1, t', σ', tg', LV', by omega, rfl, f1, f2, f3, f4, f5⟩
  refine WP.exit ?_
  refine XB.hit ?_
  refine WP.seq ?_
  refine WP.region ?_
  refine OPS.val rfl rfl rfl (Ev.mvP rfl) ?_
  refine OPS.val rfl rfl rfl (Ev.asP rfl) ?_
  refine OPS.val rfl rfl rfl (Ev.asI rfl) ?_
  refine OPS.nil ?_
  refine WP.ret ⟨_, rfl, ?_⟩
  have hj : es.length = j := by have h := of_decide_eq_false hc6; omega
  have hr := hj0 hj
  refine .inr ⟨h0, ⟨f, A, ca, B, cb, gS, gP, gO, gU, w0.heap.size⟩, tg, LV, rfl, rfl, ?_, H.drop (List.sublist_append_right _ _), ?_⟩
  · rw [← hr, hj]; exact hLV
  · rw [← hr]; exact hR
end Go.Proofs.Ytchjbjplddhknaa

/-
  Walks: the closure of At, IndexFunc at it.
-/
set_option linter.all false
namespace Go.Proofs.Ytchjbjplddhknaa
open Go Go.W Go.RowKit

theorem at1 (x : Evt) (gt : Nat) (t : Int) (w0 : World) (ht : w0.cell? ⟨gt, 0, none⟩ = some (I t)) :
    Calls Try.prog 22 #[.agg (evC x).toArray, .pointer (some ⟨gt, 0, none⟩)] w0 fun e w' => e = .returned (.bool (decide (t < x.a))) ∧ Below w0.heap.size w0 w' := by
  have H := SH.refl w0
  unfold evC
  refine Calls.ofWP Try.func22 rfl Try.results22 Try.ntmps22 rfl ?_
  refine WP.seq ?_
  refine WP.region ?_
  refine OPS.box rfl rfl rfl rfl (cA rfl) H ?_
  clear H; intro g2 w H
  refine OPS.val rfl rfl rfl (Ev.asB rfl) ?_
  refine OPS.nil ?_
  refine WP.seq ?_
  refine WP.region ?_
  refine OPS.val rfl rfl rfl (Ev.fieldAddr (fld_run rfl) rfl) ?_
  refine OPS.val rfl rfl rfl (Ev.load1 (agg_run rfl) rfl (by first | exact H.ldL 0 rfl _ rfl | exact H.ldL 1 rfl _ rfl | exact H.ldL 2 rfl _ rfl | exact H.ldL 3 rfl _ rfl | exact H.ldL 4 rfl _ rfl | exact H.ldL 5 rfl _ rfl | exact H.ldL 6 rfl _ rfl | exact H.ldL 7 rfl _ rfl | exact H.ld0 (by assumption) | assumption | exact H.ldS (by assumption) (by assumption))) ?_
  refine OPS.val rfl rfl rfl (Ev.load1 (agg_run rfl) rfl (by first | exact H.ldL 0 rfl _ rfl | exact H.ldL 1 rfl _ rfl | exact H.ldL 2 rfl _ rfl | exact H.ldL 3 rfl _ rfl | exact H.ldL 4 rfl _ rfl | exact H.ldL 5 rfl _ rfl | exact H.ldL 6 rfl _ rfl | exact H.ldL 7 rfl _ rfl | exact H.ld0 (by assumption) | assumption | exact H.ldS (by assumption) (by assumption))) ?_
  refine OPS.val rfl rfl rfl (Ev.gtr rfl rfl) ?_
  refine OPS.val rfl rfl rfl (Ev.asB rfl) ?_
  refine OPS.nil ?_
  refine WP.ret ⟨_, rfl, ?_⟩
  exact ⟨rfl, H.below⟩
/-- how many events are up to t, in a list in which they come first -/
def upto (t : Int) (es : List Evt) : List Evt := es.takeWhile fun x => !decide (t < x.a)
theorem evIndex (A : Option Addr) (es : List Evt) (cap : Nat) (gt : Nat) (t : Int) (w0 : World) (hz : RowsAt 9 evC w0 A es) (hl : es.length ≤ 1000) (ht : w0.cell? ⟨gt, 0, none⟩ = some (I t)) :
    Calls Try.prog 33 #[.slice A es.length cap, .func (.func 22) #[] #[.pointer (some ⟨gt, 0, none⟩)]] w0 fun e w' => (∃ n, ∃ h : n < es.length, e = .returned (I n) ∧ t < es[n].a ∧ ∀ i, ∀ h : i < es.length, i < n → ¬ t < es[i].a) ∧ Below w0.heap.size w0 w' ∨ (e = .returned (I (-1)) ∧ ∀ x ∈ es, ¬ t < x.a) ∧ Below w0.heap.size w0 w' := by
  have H := SH.refl w0
  refine Calls.ofWP Try.func33 rfl Try.results33 Try.ntmps33 rfl ?_
  refine WP.seq ?_
  refine WP.region ?_
  refine OPS.val rfl rfl rfl (Ev.asI rfl) ?_
  refine OPS.nil ?_
  refine WP.seq ?_
  refine WP.seq ?_
  refine WP.region ?_
  refine OPS.val rfl rfl rfl (Ev.mvS rfl) ?_
  refine OPS.val rfl rfl rfl (Ev.len (el_run rfl) rfl) ?_
  refine OPS.val rfl rfl rfl (Ev.mvI rfl) ?_
  refine OPS.nil ?_
  refine WP.block ?_
  refine WP.loop [4, 5, 8, 9, 10, 11, 12, 13, 14, 15, 16, 17, 18] (fun k e w' => ∃ (j : Nat), j + k = es.length ∧ e 8 = I j ∧ (∀ i, ∀ h : i < es.length, i < j → ¬ t < es[i].a) ∧ SH w0 [] w' []) (es.length) (⟨0, by omega, rfl, fun _ _ h => absurd h (by omega), H⟩) ?_
  clear H
  rintro k u w ⟨j, hk, h8, hall, H⟩
  refine WP.know (t := 8) h8 ?_
  refine WP.seq ?_
  refine WP.region ?_
  refine OPS.val rfl rfl rfl (Ev.lss rfl rfl) ?_
  refine OPS.nil ?_
  refine WP.seq ?_
  refine WP.cond rfl (fun hc2 => ?_) (fun hc2 => ?_)
  · have hlt : j < es.length := by have h := of_decide_eq_true hc2; omega
    obtain ⟨b, o, rfl, hx⟩ := hz j hlt
    refine WP.skip ?_
    refine WP.seq ?_
    refine WP.block ?_
    refine WP.seq ?_
    refine WP.region ?_
    refine OPS.val rfl rfl rfl (Ev.mvI rfl) ?_
    refine OPS.val rfl rfl rfl (Ev.asI rfl) ?_
    refine OPS.nil ?_
    refine WP.seq ?_
    refine WP.region ?_
    refine OPS.val rfl rfl rfl (Ev.mvF rfl) ?_
    refine OPS.val rfl rfl rfl (Ev.mvS rfl) ?_
    refine OPS.val rfl rfl rfl (Ev.mvI rfl) ?_
    refine OPS.val rfl rfl rfl ((by first | exact Ev.indexAddr1 (el_run rfl) (size_run rfl) rfl rfl rfl (by omega) | exact Ev.indexAddr (el_run rfl) (size_run rfl) rfl rfl rfl (by omega))) ?_
    refine OPS.val rfl rfl rfl (Ev.loadN (evC es[j]) (agg_run rfl) (size_run rfl) rfl (cellsAt_sh H hx)) ?_
    refine OPS.call (d := some 16) rfl rfl rfl (EvC.clos rfl (fun_run (by first | rfl | assumption))) (at1 es[j] gt t _ (H.ld0 ht)) ?_
    rintro _ w ⟨rfl, hb⟩
    refine ⟨_, rfl, ?_⟩
    replace H := H.toBelow hb; clear hb
    refine OPS.nil ?_
    refine WP.cond rfl (fun hc4 => ?_) (fun hc4 => ?_)
    · refine WP.seq ?_
      refine WP.region ?_
      refine OPS.val rfl rfl rfl (Ev.mvI rfl) ?_
      refine OPS.val rfl rfl rfl (Ev.asI rfl) ?_
      refine OPS.nil ?_
      refine WP.ret ⟨_, rfl, ?_⟩
      have hy : t < es[j].a := by simpa using hc4
      exact .inl ⟨⟨j, hlt, rfl, hy, hall⟩, H.below⟩
    have hy : ¬ t < es[j].a := by simpa using hc4
    refine WP.skip ?_
    refine WP.region ?_
    refine OPS.val rfl rfl rfl (Ev.add rfl rfl (by unfold fits; omega)) ?_
    refine OPS.val rfl rfl rfl (Ev.mvI rfl) ?_
    refine OPS.nil ?_
    exact ⟨(by repeat (first | exact Agree.refl _ _ | exact Agree.mix _ _ _ | refine Agree.upd rfl ?_ | refine Agree.mix2 rfl ?_)), k - 1, by omega, j + 1, by omega, rfl, (fun i h1 h2 => by
      rcases Nat.lt_or_eq_of_le (Nat.le_of_lt_succ h2) with h | rfl
      · exact hall i h1 h
      · exact hy), H⟩
  refine WP.exit ?_
  refine XB.hit ?_
  refine WP.seq ?_
  refine WP.region ?_
  refine OPS.val rfl rfl rfl (Ev.asI rfl) ?_
  refine OPS.nil ?_
  refine WP.ret ⟨_, rfl, ?_⟩
  have hj : j = es.length := by have h := of_decide_eq_false hc2; omega
  subst hj
  refine .inr ⟨⟨rfl, fun x hx => ?_⟩, H.below⟩
  obtain ⟨i, hi, rfl⟩ := List.mem_iff_getElem.1 hx
  exact hall i hi hi
end Go.Proofs.Ytchjbjplddhknaa

/-
  Walks: DeleteFunc of the events behind a moment, in a list in order.
-/
set_option linter.all false
namespace Go.Proofs.Ytchjbjplddhknaa
open Go Go.W Go.RowKit

theorem cmp_at {x y : Evt} (h : evLe x y = true) : x.a ≤ y.a := by
  simp only [evLe, Bool.not_eq_true', decide_eq_false_iff_not] at h
  by_cases hlt : y.a < x.a
  · exact absurd (cmpL_neg.2 (.inl hlt)) h
  · omega
theorem upto_at {t : Int} : ∀ (es : List Evt) (n : Nat) (hn : n < es.length), t < es[n].a → (∀ i, ∀ h : i < es.length, i < n → ¬ t < es[i].a) → upto t es = es.take n
  | x :: es, 0, hn, h1, _ => by
    have h1 : t < x.a := h1
    simp [upto, h1]
  | x :: es, n + 1, hn, h1, h2 => by
    have h0 : ¬ t < x.a := h2 0 (by simp) (by omega)
    have ih := upto_at es n (by simpa using hn) (by simpa using h1) (fun i hi hin => by
      have := h2 (i + 1) (by simpa using hi) (by omega)
      simpa using this)
    rw [upto, List.takeWhile_cons_of_pos (by simpa using h0), List.take_succ_cons, ← ih]
    rfl
theorem upto_all {t : Int} : ∀ {es : List Evt}, (∀ x ∈ es, ¬ t < x.a) → upto t es = es
  | [], _ => rfl
  | x :: es, h => by
    have h0 := h x (List.mem_cons_self ..)
    have ih := upto_all (es := es) fun y hy => h y (List.mem_cons_of_mem _ hy)
    rw [upto, List.takeWhile_cons_of_pos (by simpa using h0)]
    exact congrArg _ ih
theorem upto_len {t : Int} {es : List Evt} : (upto t es).length ≤ es.length := (List.takeWhile_sublist _).length_le
theorem evIndex2 (A : Option Addr) (es : List Evt) (cap : Nat) (gt : Nat) (t : Int) (w0 : World) (hz : RowsAt 9 evC w0 A es) (hl : es.length ≤ 1000) (ht : w0.cell? ⟨gt, 0, none⟩ = some (I t)) :
    Calls Try.prog 33 #[.slice A es.length cap, .func (.func 22) #[] #[.pointer (some ⟨gt, 0, none⟩)]] w0 fun e w' => ∃ v : Int, e = .returned (I v) ∧ ((∃ n, ∃ h : n < es.length, v = n ∧ t < es[n].a ∧ ∀ i, ∀ h : i < es.length, i < n → ¬ t < es[i].a) ∨ v = -1 ∧ ∀ x ∈ es, ¬ t < x.a) ∧ Below w0.heap.size w0 w' :=
  (evIndex A es cap gt t w0 hz hl ht).mono fun e w' h => by
    rcases h with ⟨⟨n, hn, rfl, h1, h2⟩, hb⟩ | ⟨⟨rfl, h1⟩, hb⟩
    · exact ⟨n, rfl, .inl ⟨n, hn, rfl, h1, h2⟩, hb⟩
    · exact ⟨-1, rfl, .inr ⟨rfl, h1⟩, hb⟩
theorem evDelete (g : Nat) (es : List Evt) (sp : List Value) (cap : Nat) (gt : Nat) (t : Int) (w0 : World) (hb : w0.heap[g]? = some (.cells (es.flatMap evC ++ sp).toArray 56 (0, 0))) (hok : EvOk es) (hl : es.length ≤ 1000) (hcap : es.length ≤ cap) (hgt : gt ≠ g) (ht : w0.cell? ⟨gt, 0, none⟩ = some (I t)) :
    Calls Try.prog 20 #[.slice (some ⟨g, 0, none⟩) es.length cap, .func (.func 22) #[] #[.pointer (some ⟨gt, 0, none⟩)]] w0 fun e w' => ∃ sp', e = .returned (.slice (some ⟨g, 0, none⟩) (upto t es).length cap) ∧ SH w0 [g] w' [⟨g, 56, (upto t es).flatMap evC ++ sp'⟩] := by
  have H := SH.of1 hb
  have hS : gt ∉ [g] := by simpa using hgt
  have rows : ∀ {w : World} {L : List Blk}, SH w0 [g] w (⟨g, 56, es.flatMap evC ++ sp⟩ :: L) → RowsAt 9 evC w (some ⟨g, 0, none⟩) es := fun H => rowsOwn (enc := evC) (sz := 9) (l := es) (post := sp) (fun _ => rfl) H 0 rfl
  refine Calls.ofWP Try.func20 rfl Try.results20 Try.ntmps20 rfl ?_
  refine WP.seq ?_
  refine WP.region ?_
  refine OPS.val rfl rfl rfl (Ev.asS rfl) ?_
  refine OPS.nil ?_
  refine WP.seq ?_
  refine WP.region ?_
  refine OPS.val rfl rfl rfl (Ev.mvS rfl) ?_
  refine OPS.val rfl rfl rfl (Ev.mvF rfl) ?_
  refine OPS.call (d := some 10) rfl rfl rfl (EvC.func (fun_run rfl)) (evIndex2 (some ⟨g, 0, none⟩) es cap gt t w0 (rows H) hl ht) ?_
  rintro _ w ⟨v, rfl, hv, hb⟩
  refine ⟨_, rfl, ?_⟩
  replace H := H.toBelow hb; clear hb
  refine OPS.val rfl rfl rfl (Ev.asI rfl) ?_
  refine OPS.nil ?_
  refine WP.seq ?_
  refine WP.seq ?_
  refine WP.region ?_
  refine OPS.val rfl rfl rfl (Ev.mvI rfl) ?_
  refine OPS.val rfl rfl rfl (Ev.eql rfl rfl) ?_
  refine OPS.nil ?_
  refine WP.cond rfl (fun hc2 => ?_) (fun hc2 => ?_)
  · refine WP.seq ?_
    refine WP.region ?_
    refine OPS.val rfl rfl rfl (Ev.mvS rfl) ?_
    refine OPS.val rfl rfl rfl (Ev.asS rfl) ?_
    refine OPS.nil ?_
    refine WP.ret ⟨_, rfl, ?_⟩
    have h1 : v = -1 := by simpa using hc2
    rcases hv with ⟨n, _, h2, _⟩ | ⟨_, h3⟩
    · omega
    · refine ⟨sp, by rw [upto_all h3]; rfl, by rw [upto_all h3]; exact H⟩
  have h1 : v ≠ -1 := by simpa using hc2
  obtain ⟨n, hn, rfl, hna, hnb⟩ : ∃ n, ∃ h : n < es.length, v = n ∧ t < es[n].a ∧ ∀ i, ∀ h : i < es.length, i < n → ¬ t < es[i].a := by
    rcases hv with h | ⟨h, _⟩
    · exact h
    · exact absurd h h1
  have hup := upto_at es n hn hna hnb
  have hlater : ∀ i, ∀ h : i < es.length, n ≤ i → t < es[i].a := fun i hi hni => by
    rcases Nat.lt_or_eq_of_le hni with hlt | rfl
    · have := cmp_at (List.pairwise_iff_getElem.1 hok.srt n i hn hi hlt)
      omega
    · exact hna
  refine WP.skip ?_
  refine WP.seq ?_
  refine WP.seq ?_
  refine WP.region ?_
  refine OPS.val rfl rfl rfl (Ev.mvI rfl) ?_
  refine OPS.val rfl rfl rfl (Ev.add rfl rfl (by unfold fits; omega)) ?_
  refine OPS.val rfl rfl rfl (Ev.asI rfl) ?_
  refine OPS.nil ?_
  refine WP.block ?_
  refine WP.loop [5, 6, 7, 16, 17, 18, 19, 20, 21, 22, 23, 24, 25, 26, 27, 28, 29, 30, 31, 32, 33, 34, 35] (fun k e w' => ∃ (j : Nat), n < j ∧ j + k = es.length ∧ e 5 = I n ∧ e 6 = I j ∧ SH w0 [g] w' [⟨g, 56, es.flatMap evC ++ sp⟩]) (es.length - (n + 1)) (⟨n + 1, by omega, by omega, rfl, rfl, H⟩) ?_
  clear H
  rintro k u w ⟨j, hnj, hk, h5, h6, H⟩
  refine WP.know (t := 5) h5 (WP.know (t := 6) h6 ?_)
  refine WP.seq ?_
  refine WP.seq ?_
  refine WP.region ?_
  refine OPS.val rfl rfl rfl (Ev.mvI rfl) ?_
  refine OPS.val rfl rfl rfl (Ev.mvS rfl) ?_
  refine OPS.val rfl rfl rfl (Ev.len (el_run rfl) rfl) ?_
  refine OPS.val rfl rfl rfl (Ev.lss rfl rfl) ?_
  refine OPS.nil ?_
  refine WP.cond rfl (fun hc5 => ?_) (fun hc5 => ?_)
  · have hlt : j < es.length := by have h := of_decide_eq_true hc5; omega
    obtain ⟨b, o, hbo, hx⟩ := rows H j hlt
    cases hbo
    refine WP.skip ?_
    refine WP.seq ?_
    refine WP.block ?_
    refine WP.seq ?_
    refine WP.region ?_
    refine OPS.val rfl rfl rfl (Ev.mvS rfl) ?_
    refine OPS.val rfl rfl rfl (Ev.mvI rfl) ?_
    refine OPS.val rfl rfl rfl ((by first | exact Ev.indexAddr1 (el_run rfl) (size_run rfl) rfl rfl rfl (by omega) | exact Ev.indexAddr (el_run rfl) (size_run rfl) rfl rfl rfl (by omega))) ?_
    refine OPS.val rfl rfl rfl (Ev.loadN (evC es[j]) (agg_run rfl) (size_run rfl) rfl hx) ?_
    refine OPS.alloc rfl rfl rfl rfl (zero_run rfl) rfl H ?_
    clear H; intro g7 w H
    first | refine OPS.store 0 _ rfl rfl rfl (size_run rfl) rfl (cA rfl) rfl rfl H rfl (by simp) ?_ | refine OPS.store 1 _ rfl rfl rfl (size_run rfl) rfl (cA rfl) rfl rfl H rfl (by simp) ?_ | refine OPS.store 2 _ rfl rfl rfl (size_run rfl) rfl (cA rfl) rfl rfl H rfl (by simp) ?_ | refine OPS.store 3 _ rfl rfl rfl (size_run rfl) rfl (cA rfl) rfl rfl H rfl (by simp) ?_ | refine OPS.store 4 _ rfl rfl rfl (size_run rfl) rfl (cA rfl) rfl rfl H rfl (by simp) ?_ | refine OPS.store 5 _ rfl rfl rfl (size_run rfl) rfl (cA rfl) rfl rfl H rfl (by simp) ?_ | refine OPS.store 6 _ rfl rfl rfl (size_run rfl) rfl (cA rfl) rfl rfl H rfl (by simp) ?_ | refine OPS.store 7 _ rfl rfl rfl (size_run rfl) rfl (cA rfl) rfl rfl H rfl (by simp) ?_ | refine OPS.store 8 _ rfl rfl rfl (size_run rfl) rfl (cA rfl) rfl rfl H rfl (by simp) ?_
    clear H; intro w H; try simp only [List.set_cons_zero, List.set_cons_succ, putL, Nat.zero_add] at H
    refine OPS.nil ?_
    refine WP.seq ?_
    refine WP.region ?_
    refine OPS.val rfl rfl rfl (Ev.mvF rfl) ?_
    refine OPS.val rfl rfl rfl ((by first | exact Ev.loadO 0 H rfl (agg_run rfl) (size_run rfl) (by first | assumption | rfl) rfl | exact Ev.loadO 1 H rfl (agg_run rfl) (size_run rfl) (by first | assumption | rfl) rfl | exact Ev.loadO 2 H rfl (agg_run rfl) (size_run rfl) (by first | assumption | rfl) rfl | exact Ev.loadO 3 H rfl (agg_run rfl) (size_run rfl) (by first | assumption | rfl) rfl | exact Ev.loadO 4 H rfl (agg_run rfl) (size_run rfl) (by first | assumption | rfl) rfl | exact Ev.loadO 5 H rfl (agg_run rfl) (size_run rfl) (by first | assumption | rfl) rfl | exact Ev.loadO 6 H rfl (agg_run rfl) (size_run rfl) (by first | assumption | rfl) rfl | (change Ev _ _ _ _ (Op.load 56 (Operand.tmp 7)) _; fail))) ?_
    refine OPS.call (d := some 28) rfl rfl rfl (EvC.clos rfl (fun_run (by first | rfl | assumption))) (at1 es[j] gt t _ (H.ldS ht hS)) ?_
    rintro _ w ⟨rfl, hb⟩
    refine ⟨_, rfl, ?_⟩
    replace H := H.toBelow hb; clear hb
    refine OPS.val rfl rfl rfl (Ev.not rfl) ?_
    refine OPS.nil ?_
    refine WP.cond rfl (fun hc8 => ?_) (fun hc8 => ?_)
    · refine WP.seq ?_
      have := hlater j hlt (by omega)
      simp [this] at hc8
    refine WP.skip ?_
    refine WP.region ?_
    refine OPS.val rfl rfl rfl (Ev.mvI rfl) ?_
    refine OPS.val rfl rfl rfl (Ev.add rfl rfl (by unfold fits; omega)) ?_
    refine OPS.val rfl rfl rfl (Ev.asI rfl) ?_
    refine OPS.nil ?_
    exact ⟨(by repeat (first | exact Agree.refl _ _ | exact Agree.mix _ _ _ | refine Agree.upd rfl ?_ | refine Agree.mix2 rfl ?_)), k - 1, by omega, j + 1, by omega, by omega, rfl, rfl, H.drop (List.sublist_cons_self _ _)⟩
  refine WP.exit ?_
  refine XB.hit ?_
  refine WP.seq ?_
  have hfit : 0 + n * 9 + (es.length - n) * (evC ⟨0, 0, 0, 0, 0, 0, 0, 0, 0⟩).length ≤ (es.flatMap evC ++ sp).length := by
    rw [List.length_append, rows_length (sz := 9) (fun _ => rfl), evC_len]; omega
  refine WP.region ?_
  refine OPS.val rfl rfl rfl (Ev.mvS rfl) ?_
  refine OPS.val rfl rfl rfl (Ev.mvI rfl) ?_
  refine OPS.val rfl rfl rfl (Ev.sliceFrom2 (j := n) (el_run rfl) (size_run rfl) rfl rfl rfl (by omega) (by omega)) ?_
  refine OPS.clear (b := ⟨g, 56, es.flatMap evC ++ sp⟩) 0 (0 + n * 9) rfl rfl rfl (zs := evC ⟨0, 0, 0, 0, 0, 0, 0, 0, 0⟩) (el_run rfl) (zero_run rfl) rfl (by decide) rfl rfl (by omega) H rfl hfit ?_
  clear H; intro w H
  refine OPS.nil ?_
  refine WP.seq ?_
  refine WP.region ?_
  refine OPS.val rfl rfl rfl (Ev.mvS rfl) ?_
  refine OPS.val rfl rfl rfl (Ev.mvI rfl) ?_
  refine OPS.val rfl rfl rfl (Ev.sliceTo (j := n) (el_run rfl) ⟨_, size_run rfl⟩ rfl rfl rfl (by omega)) ?_
  refine OPS.val rfl rfl rfl (Ev.asS rfl) ?_
  refine OPS.nil ?_
  refine WP.ret ⟨_, rfl, ?_⟩
  have H : SH w0 [g] w [⟨g, 56, putL (es.flatMap evC ++ sp) (0 + n * 9) (mkL (es.length - n) (evC ⟨0, 0, 0, 0, 0, 0, 0, 0, 0⟩))⟩] := H
  have hl1 : ((es.take n).flatMap evC).length = n * 9 := by rw [rows_length (sz := 9) (fun _ => rfl), List.length_take, Nat.min_eq_left (by omega)]
  have he : es.flatMap evC ++ sp = (es.take n).flatMap evC ++ ((es.drop n).flatMap evC ++ sp) := by
    rw [← List.append_assoc, ← List.flatMap_append, List.take_append_drop]
  rw [he, show 0 + n * 9 = ((es.take n).flatMap evC).length + 0 by omega, putL_append_right, ← hup] at H
  exact ⟨_, by rw [hup, List.length_take, Nat.min_eq_left (by omega)]; rfl, H⟩
end Go.Proofs.Ytchjbjplddhknaa

/-
  Walks: Stays; its stays follow one another.
-/
set_option linter.all false
namespace Go.Proofs.Ytchjbjplddhknaa
open Go Go.W Go.RowKit

def visV (b : Nat) (v : Sty × List Sty) (σ : Sta) (x : Evt) (er : Int) : Sty × List Sty := visS b (σ.sp.getD b default) x er v
def now0 (b : Nat) : Sty := ⟨b, 5, 0, 0, 0, 0⟩
def LVst (b gB gE gN gO : Nat) (j : Nat) (v : Sty × List Sty) (L : List Blk) : Prop := v.2.length ≤ j ∧ ∃ A c Lo, OwnS A c v.2.length (v.2.flatMap stC) 48 6 Lo ∧ L = LW gB gE gN gO b v.1 A v.2.length c Lo
theorem endO_len (now : Sty) (out : List Sty) (a : Int) : (endO now out a).length ≤ out.length + 1 := by
  unfold endO
  split
  · omega
  · split
    · split
      · simp
      · simp
    · simp
theorem visS_len (b : Nat) (s : Spt) (x : Evt) (er : Int) (v : Sty × List Sty) : (visS b s x er v).2.length ≤ v.2.length + 1 := by
  unfold visS
  split
  · exact endO_len _ _ _
  · omega
theorem toldS (f : Flt) (b gB gE gN gO : Nat) (hb : (b : Int) < f.bk) : Told f (visV b) (LVst b gB gE gN gO) true (.func (.func 19) #[] (List.toArray [.pointer (some ⟨gB, 0, none⟩), .pointer (some ⟨gN, 0, none⟩), .pointer (some ⟨gE, 0, none⟩)])) := by
  refine ⟨?_, ?_, fun h => (by cases h), fun _ => ⟨_, _, rfl, rfl, ?_⟩⟩
  · rintro j t L ⟨_, A, c, Lo, hO, rfl⟩
    exact LW_tag hO
  · rintro j t L ⟨h1, h2⟩
    exact ⟨by omega, h2⟩
  · rintro j ⟨now, out⟩ L l σ tg w x er hj ⟨h1, A, c, Lo, hO, rfl⟩ hR hlf hOff H
    have hlen := hR.len
    rw [hlf] at hlen
    have hbl : b < σ.sp.length := by omega
    have h1 : out.length ≤ j := h1
    have hg : σ.sp.getD b default = σ.sp[b] := by rw [List.getD_eq_getElem?_getD, List.getElem?_eq_getElem hbl]; rfl
    refine (visit b x er gB gE gN gO now out A c Lo l σ tg w hR hbl (by omega) hO _ hOff H).mono ?_
    rintro e w' ⟨A', c', Lo', rfl, hO', H'⟩
    refine ⟨_, rfl, ⟨?_, A', c', Lo', ?_, rfl⟩, ?_⟩
    · have := visS_len b (σ.sp.getD b default) x er (now, out)
      show (visS b (σ.sp.getD b default) x er (now, out)).2.length ≤ j + 1
      have h2 : (now, out).2.length = out.length := rfl
      omega
    · rw [← hg] at hO'; exact hO'
    · rw [← hg] at H'; exact H'
def staysV (f : Flt) (b : Nat) (es : List Evt) : Sty × List Sty := (runG f (visV b) (now0 b, []) es).2
def staysL (f : Flt) (b : Nat) (es : List Evt) : List Sty := if flErr f = 0 then endO (staysV f b es).1 (staysV f b es).2 4294944000 else []
theorem stays (f : Flt) (b : Nat) (hb : (b : Int) < f.bk) (A : Option Addr) (ca : Nat) (B : Option Addr) (cb : Nat) (El : Option Addr) (es : List Evt) (ce : Nat) (w0 : World)
    (hf : FlAt w0 f A B) (hz : RowsAt 9 evC w0 El es) (hok : EvOk es) (hfit : ∀ x ∈ es, fits x.p) (hl : es.length ≤ 900) (hE : El = none → ce = 0) :
    Calls Try.prog 9 #[.agg (flC f A ca B cb).toArray, .slice El es.length ce, I b] w0 fun e w' => ∃ As c Lo, e = .returned (.tuple #[.slice As (staysL f b es).length c, I (flErr f)]) ∧ OwnS As c (staysL f b es).length ((staysL f b es).flatMap stC) 48 6 Lo ∧ SH w0 [] w' Lo := by
  have H := SH.refl w0
  unfold flC
  refine Calls.ofWP Try.func9 rfl Try.results9 Try.ntmps9 rfl ?_
  refine WP.seq ?_
  refine WP.region ?_
  refine OPS.box rfl rfl rfl rfl (cA rfl) H ?_
  clear H; intro g3 w H
  refine OPS.box rfl rfl rfl rfl (cI rfl) H ?_
  clear H; intro g5 w H
  refine OPS.val rfl rfl rfl (Ev.asS rfl) ?_
  refine OPS.val rfl rfl rfl (Ev.asI rfl) ?_
  refine OPS.nil ?_
  refine WP.seq ?_
  refine WP.seq ?_
  refine WP.region ?_
  refine OPS.val rfl rfl rfl ((by first | exact Ev.loadO 0 H rfl (agg_run rfl) (size_run rfl) (by first | assumption | rfl) rfl | exact Ev.loadO 1 H rfl (agg_run rfl) (size_run rfl) (by first | assumption | rfl) rfl | exact Ev.loadO 2 H rfl (agg_run rfl) (size_run rfl) (by first | assumption | rfl) rfl | exact Ev.loadO 3 H rfl (agg_run rfl) (size_run rfl) (by first | assumption | rfl) rfl | exact Ev.loadO 4 H rfl (agg_run rfl) (size_run rfl) (by first | assumption | rfl) rfl | exact Ev.loadO 5 H rfl (agg_run rfl) (size_run rfl) (by first | assumption | rfl) rfl | exact Ev.loadO 6 H rfl (agg_run rfl) (size_run rfl) (by first | assumption | rfl) rfl | (change Ev _ _ _ _ (Op.load 24 (Operand.tmp 3)) _; fail))) ?_
  refine OPS.call (d := some 15) rfl rfl rfl (EvC.func (fun_run rfl)) (eventFleet f A ca B cb _ (hf.sh H)) ?_
  rintro _ w ⟨rfl, hb⟩
  refine ⟨_, rfl, ?_⟩
  replace H := H.toBelow hb; clear hb
  refine OPS.val rfl rfl rfl (Ev.asI rfl) ?_
  refine OPS.nil ?_
  refine WP.seq ?_
  refine WP.region ?_
  refine OPS.val rfl rfl rfl (Ev.mvI rfl) ?_
  refine OPS.val rfl rfl rfl (Ev.neq rfl rfl) ?_
  refine OPS.nil ?_
  refine WP.cond rfl (fun hc2 => ?_) (fun hc2 => ?_)
  · refine WP.seq ?_
    refine WP.region ?_
    refine OPS.val rfl rfl rfl (Ev.mvI rfl) ?_
    refine OPS.val rfl rfl rfl (Ev.asS rfl) ?_
    refine OPS.val rfl rfl rfl (Ev.asI rfl) ?_
    refine OPS.nil ?_
    refine WP.ret ⟨_, rfl, ?_⟩
    have h0 : flErr f ≠ 0 := by simpa using hc2
    rw [staysL, if_neg h0]
    exact ⟨none, 0, [], rfl, OwnS.nil, H.drop (List.nil_sublist _)⟩
  have h0 : flErr f = 0 := by simpa using hc2
  refine WP.skip ?_
  refine WP.seq ?_
  refine WP.seq ?_
  refine WP.region ?_
  refine OPS.val rfl rfl rfl (Ev.load1 (agg_run rfl) rfl (by first | exact H.ldL 0 rfl _ rfl | exact H.ldL 1 rfl _ rfl | exact H.ldL 2 rfl _ rfl | exact H.ldL 3 rfl _ rfl | exact H.ldL 4 rfl _ rfl | exact H.ldL 5 rfl _ rfl | exact H.ldL 6 rfl _ rfl | exact H.ldL 7 rfl _ rfl | exact H.ld0 (by assumption) | assumption | exact H.ldS (by assumption) (by assumption))) ?_
  refine OPS.val rfl rfl rfl (Ev.lss rfl rfl) ?_
  refine OPS.val rfl rfl rfl (Ev.mvB rfl) ?_
  refine OPS.gval rfl rfl rfl rfl rfl (fun hg => Ev.load1 (agg_run rfl) (by first | rfl | exact gvE hg rfl) (by first | exact H.ldL 0 rfl _ rfl | exact H.ldL 1 rfl _ rfl | exact H.ldL 2 rfl _ rfl | exact H.ldL 3 rfl _ rfl | exact H.ldL 4 rfl _ rfl | exact H.ldL 5 rfl _ rfl | exact H.ldL 6 rfl _ rfl | exact H.ldL 7 rfl _ rfl | exact H.ld0 (by assumption) | assumption | exact H.ldS (by assumption) (by assumption))) ?_
  refine OPS.gval rfl rfl rfl rfl rfl (fun hg => Ev.fieldAddr (fld_run rfl) (by first | rfl | exact gvE hg rfl)) ?_
  refine OPS.gval rfl rfl rfl rfl rfl (fun hg => Ev.load1 (agg_run rfl) (by first | rfl | exact gvE hg rfl) (by first | exact H.ldL 0 rfl _ rfl | exact H.ldL 1 rfl _ rfl | exact H.ldL 2 rfl _ rfl | exact H.ldL 3 rfl _ rfl | exact H.ldL 4 rfl _ rfl | exact H.ldL 5 rfl _ rfl | exact H.ldL 6 rfl _ rfl | exact H.ldL 7 rfl _ rfl | exact H.ld0 (by assumption) | assumption | exact H.ldS (by assumption) (by assumption))) ?_
  refine OPS.gval rfl rfl rfl rfl rfl (fun hg => Ev.geq (by first | rfl | exact gvE hg rfl) (by first | rfl | exact gvE hg rfl)) ?_
  refine OPS.val rfl rfl rfl ((by first | exact Ev.pickOr rfl rfl rfl | exact Ev.pickAnd rfl rfl rfl)) ?_
  refine OPS.nil ?_
  refine WP.cond rfl (fun hc4 => ?_) (fun hc4 => ?_)
  · refine WP.seq ?_
    have hn : ¬ ((b : Int) < 0) ∧ ¬ (f.bk ≤ (b : Int)) := ⟨by omega, by omega⟩
    simp [hn.1, hn.2] at hc4
  refine WP.skip ?_
  refine WP.seq ?_
  refine WP.region ?_
  refine OPS.val rfl rfl rfl (Ev.load1 (agg_run rfl) rfl (by first | exact H.ldL 0 rfl _ rfl | exact H.ldL 1 rfl _ rfl | exact H.ldL 2 rfl _ rfl | exact H.ldL 3 rfl _ rfl | exact H.ldL 4 rfl _ rfl | exact H.ldL 5 rfl _ rfl | exact H.ldL 6 rfl _ rfl | exact H.ldL 7 rfl _ rfl | exact H.ld0 (by assumption) | assumption | exact H.ldS (by assumption) (by assumption))) ?_
  refine OPS.val rfl rfl rfl (Ev.build (bld_48_0_1 rfl rfl)) ?_
  refine OPS.alloc rfl rfl rfl rfl (zero_run rfl) rfl H ?_
  clear H; intro g9 w H
  first | refine OPS.store 0 _ rfl rfl rfl (size_run rfl) rfl (cA rfl) rfl rfl H rfl (by simp) ?_ | refine OPS.store 1 _ rfl rfl rfl (size_run rfl) rfl (cA rfl) rfl rfl H rfl (by simp) ?_ | refine OPS.store 2 _ rfl rfl rfl (size_run rfl) rfl (cA rfl) rfl rfl H rfl (by simp) ?_ | refine OPS.store 3 _ rfl rfl rfl (size_run rfl) rfl (cA rfl) rfl rfl H rfl (by simp) ?_ | refine OPS.store 4 _ rfl rfl rfl (size_run rfl) rfl (cA rfl) rfl rfl H rfl (by simp) ?_ | refine OPS.store 5 _ rfl rfl rfl (size_run rfl) rfl (cA rfl) rfl rfl H rfl (by simp) ?_ | refine OPS.store 6 _ rfl rfl rfl (size_run rfl) rfl (cA rfl) rfl rfl H rfl (by simp) ?_ | refine OPS.store 7 _ rfl rfl rfl (size_run rfl) rfl (cA rfl) rfl rfl H rfl (by simp) ?_ | refine OPS.store 8 _ rfl rfl rfl (size_run rfl) rfl (cA rfl) rfl rfl H rfl (by simp) ?_
  clear H; intro w H; try simp only [List.set_cons_zero, List.set_cons_succ, putL, Nat.zero_add] at H
  refine OPS.nil ?_
  refine WP.seq ?_
  refine WP.region ?_
  refine OPS.alloc rfl rfl rfl rfl (zero_run rfl) rfl H ?_
  clear H; intro g10 w H
  refine OPS.nil ?_
  refine WP.seq ?_
  refine WP.region ?_
  refine OPS.val rfl rfl rfl (Ev.makeFunc) ?_
  refine OPS.alloc rfl rfl rfl rfl (zero_run rfl) rfl H ?_
  clear H; intro g11 w H
  first | refine OPS.store 0 _ rfl rfl rfl (size_run rfl) rfl (cF rfl) rfl rfl H rfl (by simp) ?_ | refine OPS.store 1 _ rfl rfl rfl (size_run rfl) rfl (cF rfl) rfl rfl H rfl (by simp) ?_ | refine OPS.store 2 _ rfl rfl rfl (size_run rfl) rfl (cF rfl) rfl rfl H rfl (by simp) ?_ | refine OPS.store 3 _ rfl rfl rfl (size_run rfl) rfl (cF rfl) rfl rfl H rfl (by simp) ?_ | refine OPS.store 4 _ rfl rfl rfl (size_run rfl) rfl (cF rfl) rfl rfl H rfl (by simp) ?_ | refine OPS.store 5 _ rfl rfl rfl (size_run rfl) rfl (cF rfl) rfl rfl H rfl (by simp) ?_ | refine OPS.store 6 _ rfl rfl rfl (size_run rfl) rfl (cF rfl) rfl rfl H rfl (by simp) ?_ | refine OPS.store 7 _ rfl rfl rfl (size_run rfl) rfl (cF rfl) rfl rfl H rfl (by simp) ?_ | refine OPS.store 8 _ rfl rfl rfl (size_run rfl) rfl (cF rfl) rfl rfl H rfl (by simp) ?_
  clear H; intro w H; try simp only [List.set_cons_zero, List.set_cons_succ, putL, Nat.zero_add] at H
  refine OPS.nil ?_
  replace H : SH w0 [] w [⟨g11, 63, [endF g9 g10]⟩, ⟨g10, 37, [.slice none 0 0]⟩, ⟨g9, 48, [I b, I 5, I 0, I 0, I 0, I 0]⟩, ⟨g5, 3, [I b]⟩, ⟨g3, 24, flC f A ca B cb⟩] := H
  have H2 : SH w0 [] w ([⟨g3, 24, flC f A ca B cb⟩] ++ LW g5 g11 g9 g10 b (now0 b) none 0 0 []) := H.reidx [4, 3, 0, 2, 1] (by decide) rfl
  clear H; have H := H2; clear H2
  have hfr := (H.drop (List.sublist_append_right _ _)).fresh
  have hrun := run f (visV b) (LVst b g5 g11 g9 g10) true _ (toldS f b g5 g11 g9 g10 hb) (now0 b, []) A ca B cb El es ce (LW g5 g11 g9 g10 b (now0 b) none 0 0 []) w (hf.sh H) (hf.ds.off hfr) (hf.ts.off hfr) (hz.sh H) (hz.off (fun x => by simp [evC]) hfr) hok hfit (by omega) hE ⟨by simp, none, 0, [], OwnS.nil, rfl⟩ (H.restart (List.sublist_append_right _ _))
  have hrun := hrun.mono (R' := fun e w' => ∃ l tg L', e = .returned (.tuple #[.pointer (some ⟨Loc.gS l, 0, none⟩), I 0]) ∧ LVst b g5 g11 g9 g10 es.length (staysV f b es) L' ∧ SH w ((LW g5 g11 g9 g10 b (now0 b) none 0 0 []).map (·.g)) w' L' ∧ Rep w' l (runG f (visV b) (now0 b, []) es).1 tg) (fun e w' h => by
    rcases h with ⟨h1, _⟩ | ⟨_, l, tg, L', _, h2, h3, h4, h5⟩
    · exact absurd h0 h1
    · exact ⟨l, tg, L', h2, h3, h4, h5⟩)
  refine WP.seq ?_
  refine WP.region ?_
  refine OPS.val rfl rfl rfl ((by first | exact Ev.loadO 0 H rfl (agg_run rfl) (size_run rfl) (by first | assumption | rfl) rfl | exact Ev.loadO 1 H rfl (agg_run rfl) (size_run rfl) (by first | assumption | rfl) rfl | exact Ev.loadO 2 H rfl (agg_run rfl) (size_run rfl) (by first | assumption | rfl) rfl | exact Ev.loadO 3 H rfl (agg_run rfl) (size_run rfl) (by first | assumption | rfl) rfl | exact Ev.loadO 4 H rfl (agg_run rfl) (size_run rfl) (by first | assumption | rfl) rfl | exact Ev.loadO 5 H rfl (agg_run rfl) (size_run rfl) (by first | assumption | rfl) rfl | exact Ev.loadO 6 H rfl (agg_run rfl) (size_run rfl) (by first | assumption | rfl) rfl | (change Ev _ _ _ _ (Op.load 24 (Operand.tmp 3)) _; fail))) ?_
  refine OPS.val rfl rfl rfl (Ev.mvS rfl) ?_
  refine OPS.val rfl rfl rfl (Ev.makeFunc) ?_
  refine OPS.call (d := some 34) rfl rfl rfl (EvC.func (fun_run rfl)) (hrun) ?_
  rintro _ w ⟨l, tg, L', rfl, ⟨hlo, A', c', Lo', hO', rfl⟩, Hc, _⟩
  refine ⟨_, rfl, ?_⟩
  replace H : SH w0 [] w ([⟨g3, 24, flC f A ca B cb⟩] ++ LW g5 g11 g9 g10 b (staysV f b es).1 A' (staysV f b es).2.length c' Lo') := SH.call (L1 := [⟨g3, 24, flC f A ca B cb⟩]) H Hc
  clear Hc
  obtain ⟨now, hnow⟩ : ∃ now, now = (staysV f b es).1 := ⟨_, rfl⟩
  obtain ⟨out, hout⟩ : ∃ out, out = (staysV f b es).2 := ⟨_, rfl⟩
  have hsl : staysL f b es = endO now out 4294944000 := by rw [staysL, if_pos h0, hnow, hout]
  rw [← hnow, ← hout] at H
  rw [← hout] at hO' hlo
  rw [hsl]
  replace H : SH w0 [] w (⟨g3, 24, flC f A ca B cb⟩ :: ⟨g5, 3, [I b]⟩ :: ⟨g11, 63, [endF g9 g10]⟩ :: LVs g9 g10 now A' out.length c' Lo') := H
  refine OPS.val rfl rfl rfl (Ev.mvT rfl) ?_
  refine OPS.val rfl rfl rfl (Ev.extract rfl rfl) ?_
  refine OPS.val rfl rfl rfl (Ev.extract rfl rfl) ?_
  refine OPS.val rfl rfl rfl (Ev.asP rfl) ?_
  refine OPS.val rfl rfl rfl (Ev.asI rfl) ?_
  refine OPS.nil ?_
  refine WP.seq ?_
  have hcall := endS 4294944000 g9 g10 now out A' c' Lo' _ w (by omega) hO' (H.restart (Lv := LVs g9 g10 now A' out.length c' Lo') ((List.sublist_cons_self _ _).trans ((List.sublist_cons_self _ _).trans (List.sublist_cons_self _ _))))
  unfold endF at H
  refine WP.region ?_
  refine OPS.val rfl rfl rfl (Ev.load1 (agg_run rfl) rfl (by first | exact H.ldL 0 rfl _ rfl | exact H.ldL 1 rfl _ rfl | exact H.ldL 2 rfl _ rfl | exact H.ldL 3 rfl _ rfl | exact H.ldL 4 rfl _ rfl | exact H.ldL 5 rfl _ rfl | exact H.ldL 6 rfl _ rfl | exact H.ldL 7 rfl _ rfl | exact H.ld0 (by assumption) | assumption | exact H.ldS (by assumption) (by assumption))) ?_
  refine OPS.call (d := some 38) rfl rfl rfl (EvC.clos rfl (fun_run (by first | rfl | assumption))) (hcall) ?_
  rintro _ w ⟨A2, c2, Lo2, rfl, hO2, Hc⟩
  refine ⟨_, rfl, ?_⟩
  replace H := SH.call (L1 := [⟨g3, 24, flC f A ca B cb⟩, ⟨g5, 3, [I b]⟩, ⟨g11, 63, [endF g9 g10]⟩]) (Lv := LVs g9 g10 now A' out.length c' Lo') H Hc
  replace H : SH w0 [] w (⟨g3, 24, flC f A ca B cb⟩ :: ⟨g5, 3, [I b]⟩ :: ⟨g11, 63, [endF g9 g10]⟩ :: ⟨g9, 48, stC { now with to := 4294944000 }⟩ :: ⟨g10, 37, [.slice A2 (endO now out 4294944000).length c2]⟩ :: Lo2) := H
  refine OPS.nil ?_
  refine WP.seq ?_
  refine WP.region ?_
  refine OPS.val rfl rfl rfl (Ev.load1 (agg_run rfl) rfl (by first | exact H.ldL 0 rfl _ rfl | exact H.ldL 1 rfl _ rfl | exact H.ldL 2 rfl _ rfl | exact H.ldL 3 rfl _ rfl | exact H.ldL 4 rfl _ rfl | exact H.ldL 5 rfl _ rfl | exact H.ldL 6 rfl _ rfl | exact H.ldL 7 rfl _ rfl | exact H.ld0 (by assumption) | assumption | exact H.ldS (by assumption) (by assumption))) ?_
  refine OPS.val rfl rfl rfl (Ev.mvI rfl) ?_
  refine OPS.val rfl rfl rfl (Ev.asS rfl) ?_
  refine OPS.val rfl rfl rfl (Ev.asI rfl) ?_
  refine OPS.nil ?_
  refine WP.ret ⟨_, rfl, ?_⟩
  exact ⟨A2, c2, Lo2, by rw [h0]; rfl, hO2, H.drop ((List.sublist_cons_self _ _).trans ((List.sublist_cons_self _ _).trans ((List.sublist_cons_self _ _).trans ((List.sublist_cons_self _ _).trans (List.sublist_cons_self _ _)))))⟩
/-- the stays so far follow one another up to the beginning of now, which is 0 or the moment of an event -/
theorem stays_cov0 (f : Flt) (b : Nat) (es : List Evt) (hok : EvOk es) : ∀ j, j ≤ es.length → ∀ v, v = (runG f (visV b) (now0 b, []) (es.take j)).2 → Cov 0 v.2 v.1.fr ∧ 0 ≤ v.1.fr ∧ v.1.fr ≤ 4294943999 ∧ (v.1.fr = 0 ∨ ∃ i, ∃ h : i < es.length, i < j ∧ v.1.fr = es[i].a)
  | 0, _, v, hv => by
    have : v = (now0 b, []) := hv
    subst this
    exact ⟨rfl, Int.le_refl _, by simp [now0], .inl rfl⟩
  | j + 1, hj, v, hv => by
    have ih := stays_cov0 f b es hok j (by omega) _ rfl
    rw [runG_succ (by omega)] at hv
    generalize hs : runG f (visV b) (now0 b, []) (es.take j) = s at ih hv
    obtain ⟨i1, i2, i3, i4⟩ := ih
    have weaken : s.2.1.fr = 0 ∨ ∃ i, ∃ h : i < es.length, i < j + 1 ∧ s.2.1.fr = es[i].a := by
      rcases i4 with h | ⟨i, h, h1, h2⟩
      · exact .inl h
      · exact .inr ⟨i, h, by omega, h2⟩
    by_cases hb : chk f es[j] = 0 ∧ es[j].k = 10
    · rw [stG_beat hb.1 hb.2] at hv
      subst hv
      exact ⟨i1, i2, i3, weaken⟩
    · rw [stG_else hb] at hv
      have hv : v = visS b ((stepS f s.1 es[j]).sp.getD b default) es[j] (errS f s.1 es[j]) s.2 := hv
      rw [visS] at hv
      by_cases hc : errS f s.1 es[j] = 0 ∧ difS ((stepS f s.1 es[j]).sp.getD b default) s.2.1 = true
      · rw [if_pos hc] at hv
        subst hv
        have hr := (right_of (errS_zero.1 hc.1).1).a
        have hle : s.2.1.fr ≤ es[j].a := by
          rcases i4 with h | ⟨i, h, h1, h2⟩
          · omega
          · rw [h2]
            exact cmp_at (List.pairwise_iff_getElem.1 hok.srt i j h (by omega) h1)
        exact ⟨endO_cov i1 hle, hr.1, hr.2, .inr ⟨j, by omega, by omega, rfl⟩⟩
      · rw [if_neg hc] at hv
        subst hv
        exact ⟨i1, i2, i3, weaken⟩
theorem stays_cov (f : Flt) (b : Nat) (es : List Evt) (hok : EvOk es) (h0 : flErr f = 0) : Cov 0 (staysL f b es) 4294944000 := by
  have h := stays_cov0 f b es hok es.length (Nat.le_refl _) _ rfl
  rw [List.take_length] at h
  rw [staysL, if_pos h0]
  exact endO_cov h.1 (by have := h.2.2.1; show (runG f (visV b) (now0 b, []) es).2.1.fr ≤ 4294944000; omega)
theorem stays_count (f : Flt) (b : Nat) (es : List Evt) (hok : EvOk es) (h0 : flErr f = 0) (t : Int) (h1 : 0 ≤ t) (h2 : t ≤ 4294943999) : cntT t (staysL f b es) = 1 := ((stays_cov f b es hok h0).count (by omega)).2 h1
end Go.Proofs.Ytchjbjplddhknaa

/-
  Walks: DeleteFunc at no event, Spots, At.
-/
set_option linter.all false
namespace Go.Proofs.Ytchjbjplddhknaa
open Go Go.W Go.RowKit

theorem evDelete0 (A : Option Addr) (cap : Nat) (gt : Nat) (t : Int) (w0 : World) (ht : w0.cell? ⟨gt, 0, none⟩ = some (I t)) :
    Calls Try.prog 20 #[.slice A 0 cap, .func (.func 22) #[] #[.pointer (some ⟨gt, 0, none⟩)]] w0 fun e w' => e = .returned (.slice A 0 cap) ∧ Below w0.heap.size w0 w' := by
  have H := SH.refl w0
  refine Calls.ofWP Try.func20 rfl Try.results20 Try.ntmps20 rfl ?_
  refine WP.seq ?_
  refine WP.region ?_
  refine OPS.val rfl rfl rfl (Ev.asS rfl) ?_
  refine OPS.nil ?_
  refine WP.seq ?_
  refine WP.region ?_
  refine OPS.val rfl rfl rfl (Ev.mvS rfl) ?_
  refine OPS.val rfl rfl rfl (Ev.mvF rfl) ?_
  refine OPS.call (d := some 10) rfl rfl rfl (EvC.func (fun_run rfl)) (evIndex2 A [] cap gt t w0 RowsAt.nil (by simp) ht) ?_
  rintro _ w ⟨v, rfl, hv, hb⟩
  refine ⟨_, rfl, ?_⟩
  replace H := H.toBelow hb; clear hb
  have hv1 : v = -1 := by
    rcases hv with ⟨n, hn, _⟩ | ⟨h, _⟩
    · simp at hn
    · exact h
  refine OPS.val rfl rfl rfl (Ev.asI rfl) ?_
  refine OPS.nil ?_
  refine WP.seq ?_
  refine WP.seq ?_
  refine WP.region ?_
  refine OPS.val rfl rfl rfl (Ev.mvI rfl) ?_
  refine OPS.val rfl rfl rfl (Ev.eql rfl rfl) ?_
  refine OPS.nil ?_
  refine WP.cond rfl (fun hc2 => ?_) (fun hc2 => ?_)
  · refine WP.seq ?_
    refine WP.region ?_
    refine OPS.val rfl rfl rfl (Ev.mvS rfl) ?_
    refine OPS.val rfl rfl rfl (Ev.asS rfl) ?_
    refine OPS.nil ?_
    refine WP.ret ⟨_, rfl, ?_⟩
    exact ⟨rfl, H.below⟩
  refine WP.skip ?_
  refine WP.seq ?_
  refine WP.seq ?_
  subst hv1
  cases hc2
theorem evDelS (A : Option Addr) (es : List Evt) (cap : Nat) (Lo : List Blk) (gt : Nat) (t : Int) (w0 : World) (hO : OwnS A cap es.length (es.flatMap evC) 56 9 Lo) (H : SH w0 (Lo.map (·.g)) w0 Lo) (hok : EvOk es) (hl : es.length ≤ 1000) (hgt : gt ∉ Lo.map (·.g)) (ht : w0.cell? ⟨gt, 0, none⟩ = some (I t)) :
    Calls Try.prog 20 #[.slice A es.length cap, .func (.func 22) #[] #[.pointer (some ⟨gt, 0, none⟩)]] w0 fun e w' => ∃ L', e = .returned (.slice A (upto t es).length cap) ∧ SH w0 (Lo.map (·.g)) w' L' ∧ RowsAt 9 evC w' A (upto t es) := by
  rcases hO.form with ⟨rfl, h0, rfl, rfl⟩ | ⟨g, sp, rfl, rfl, hc1, hc2, hc3⟩
  · have : es = [] := List.length_eq_zero_iff.1 h0
    subst this
    refine (evDelete0 none 0 gt t w0 ht).mono ?_
    rintro e w' ⟨rfl, hb⟩
    exact ⟨[], rfl, (SH.refl w0).toBelow hb, RowsAt.nil⟩
  · refine (evDelete g es sp cap gt t w0 (H.own ⟨g, 56, es.flatMap evC ++ sp⟩ (by simp)) hok hl hc1 (by simpa using hgt) ht).mono ?_
    rintro e w' ⟨sp', rfl, Hc⟩
    exact ⟨_, rfl, Hc, rowsOwn (enc := evC) (sz := 9) (l := upto t es) (post := sp') (fun _ => rfl) Hc 0 rfl⟩
/-- where each bicycle is after all events -/
def spS (f : Flt) (es : List Evt) : List Spt := (runG f (fun (_ : Unit) _ _ _ => ()) () es).1.sp
theorem told0 (f : Flt) : Told f (fun (_ : Unit) _ _ _ => ()) (fun _ _ L => L = []) false .nilFunc :=
  ⟨fun h b hb => by subst h; simp at hb, fun h => h, fun _ => ⟨rfl, fun h => h⟩, fun h => by cases h⟩
theorem spots (f : Flt) (h0 : flErr f = 0) (A : Option Addr) (ca : Nat) (B : Option Addr) (cb : Nat) (El : Option Addr) (es : List Evt) (ce : Nat) (w0 : World)
    (hf : FlAt w0 f A B) (hz : RowsAt 9 evC w0 El es) (hok : EvOk es) (hfit : ∀ x ∈ es, fits x.p) (hl : es.length ≤ 900) (hE : El = none → ce = 0) :
    Calls Try.prog 23 #[.agg (flC f A ca B cb).toArray, .slice El es.length ce] w0 fun e w' => ∃ gP, e = .returned (.tuple #[.slice (some ⟨gP, 0, none⟩) (spS f es).length (spS f es).length, I 0]) ∧ w'.heap[gP]? = some (.cells ((spS f es).flatMap spC).toArray 42 (0, 0)) ∧ ((spS f es).length : Int) = f.bk ∧ SH w0 [] w' [] := by
  have H := SH.refl w0
  unfold flC
  refine Calls.ofWP Try.func23 rfl Try.results23 Try.ntmps23 rfl ?_
  refine WP.seq ?_
  refine WP.region ?_
  refine OPS.box rfl rfl rfl rfl (cA rfl) H ?_
  clear H; intro g2 w H
  refine OPS.val rfl rfl rfl (Ev.asS rfl) ?_
  refine OPS.val rfl rfl rfl (Ev.asI rfl) ?_
  refine OPS.nil ?_
  refine WP.seq ?_
  have hrun := run f (fun (_ : Unit) _ _ _ => ()) (fun _ _ L => L = []) false .nilFunc (told0 f) () A ca B cb El es ce [] w (hf.sh H) (fun _ => Off.nil) (fun _ => Off.nil) (hz.sh H) (fun _ => Off.nil) hok hfit (by omega) hE rfl (SH.refl _)
  have hrun := hrun.mono (R' := fun e w' => ∃ l tg, e = .returned (.tuple #[.pointer (some ⟨Loc.gS l, 0, none⟩), I 0]) ∧ l.f = f ∧ SH w [] w' [] ∧ Rep w' l (runG f (fun (_ : Unit) _ _ _ => ()) () es).1 tg) (fun e w' h => by
    rcases h with ⟨h1, _⟩ | ⟨_, l, tg, L', h1, h2, h3, h4, h5⟩
    · exact absurd h0 h1
    · exact ⟨l, tg, h2, h1, h4.drop (List.nil_sublist _), h5⟩)
  refine WP.region ?_
  refine OPS.val rfl rfl rfl ((by first | exact Ev.loadO 0 H rfl (agg_run rfl) (size_run rfl) (by first | assumption | rfl) rfl | exact Ev.loadO 1 H rfl (agg_run rfl) (size_run rfl) (by first | assumption | rfl) rfl | exact Ev.loadO 2 H rfl (agg_run rfl) (size_run rfl) (by first | assumption | rfl) rfl | exact Ev.loadO 3 H rfl (agg_run rfl) (size_run rfl) (by first | assumption | rfl) rfl | exact Ev.loadO 4 H rfl (agg_run rfl) (size_run rfl) (by first | assumption | rfl) rfl | exact Ev.loadO 5 H rfl (agg_run rfl) (size_run rfl) (by first | assumption | rfl) rfl | exact Ev.loadO 6 H rfl (agg_run rfl) (size_run rfl) (by first | assumption | rfl) rfl | (change Ev _ _ _ _ (Op.load 24 (Operand.tmp 2)) _; fail))) ?_
  refine OPS.val rfl rfl rfl (Ev.mvS rfl) ?_
  refine OPS.call (d := some 11) rfl rfl rfl (EvC.func (fun_run rfl)) (hrun) ?_
  rintro _ w ⟨l, tg, rfl, hlf, Hc, hR⟩
  refine ⟨_, rfl, ?_⟩
  replace H := H.toBelow Hc.below
  have hP := hR.cell (k := 5) rfl
  refine OPS.val rfl rfl rfl (Ev.mvT rfl) ?_
  refine OPS.val rfl rfl rfl (Ev.extract rfl rfl) ?_
  refine OPS.val rfl rfl rfl (Ev.extract rfl rfl) ?_
  refine OPS.val rfl rfl rfl (Ev.asP rfl) ?_
  refine OPS.val rfl rfl rfl (Ev.asI rfl) ?_
  refine OPS.nil ?_
  refine WP.seq ?_
  refine WP.seq ?_
  refine WP.region ?_
  refine OPS.val rfl rfl rfl (Ev.mvI rfl) ?_
  refine OPS.val rfl rfl rfl (Ev.neq rfl rfl) ?_
  refine OPS.nil ?_
  refine WP.cond rfl (fun hc2 => ?_) (fun hc2 => ?_)
  · refine WP.seq ?_
    refine WP.region ?_
    refine OPS.val rfl rfl rfl (Ev.mvI rfl) ?_
    refine OPS.val rfl rfl rfl (Ev.asS rfl) ?_
    refine OPS.val rfl rfl rfl (Ev.asI rfl) ?_
    refine OPS.nil ?_
    refine WP.ret ⟨_, rfl, ?_⟩
    cases hc2
  refine WP.skip ?_
  refine WP.seq ?_
  refine WP.region ?_
  refine OPS.val rfl rfl rfl (Ev.mvP rfl) ?_
  refine OPS.val rfl rfl rfl ((by first | exact Ev.nilCheckP rfl | exact Ev.nilCheckF rfl)) ?_
  refine OPS.val rfl rfl rfl (Ev.fieldAddr (fld_run rfl) rfl) ?_
  refine OPS.val rfl rfl rfl (Ev.load1 (agg_run rfl) rfl (by first | exact H.ldL 0 rfl _ rfl | exact H.ldL 1 rfl _ rfl | exact H.ldL 2 rfl _ rfl | exact H.ldL 3 rfl _ rfl | exact H.ldL 4 rfl _ rfl | exact H.ldL 5 rfl _ rfl | exact H.ldL 6 rfl _ rfl | exact H.ldL 7 rfl _ rfl | exact H.ld0 (by assumption) | assumption | exact H.ldS (by assumption) (by assumption))) ?_
  refine OPS.val rfl rfl rfl (Ev.asS rfl) ?_
  refine OPS.val rfl rfl rfl (Ev.asI rfl) ?_
  refine OPS.nil ?_
  refine WP.ret ⟨_, rfl, ?_⟩
  exact ⟨l.gP, rfl, hR.sp, by have := hR.len; rw [hlf] at this; exact this, H.drop (List.nil_sublist _)⟩
def atE (f : Flt) (t : Int) : Int := if flErr f ≠ 0 then flErr f else if t < 0 ∨ 4294943999 < t then 1 else 0
def atS (f : Flt) (es : List Evt) (b : Nat) (t : Int) : Spt := if atE f t = 0 then (spS f (upto t es)).getD b default else ⟨0, 0, 0, false, 0⟩
theorem custAt (f : Flt) (b : Nat) (hb : (b : Int) < f.bk) (t : Int) (A : Option Addr) (ca : Nat) (B : Option Addr) (cb : Nat) (El : Option Addr) (es : List Evt) (ce : Nat) (w0 : World)
    (hf : FlAt w0 f A B) (hz : RowsAt 9 evC w0 El es) (hok : EvOk es) (hfit : ∀ x ∈ es, fits x.p) (hl : es.length ≤ 900) (hE : El = none → ce = 0) :
    Calls Try.prog 11 #[.agg (flC f A ca B cb).toArray, .slice El es.length ce, I b, I t] w0 fun e w' => e = .returned (.tuple #[.agg (spC (atS f es b t)).toArray, I (atE f t)]) ∧ SH w0 [] w' [] := by
  have H := SH.refl w0
  unfold flC
  refine Calls.ofWPc Try.func11 rfl Try.results11 Try.ntmps11 rfl ?_
  refine WP.seq ?_
  refine WP.region ?_
  refine OPS.box rfl rfl rfl rfl (cA rfl) H ?_
  clear H; intro g4 w H
  refine OPS.box rfl rfl rfl rfl (cI rfl) H ?_
  clear H; intro g7 w H
  refine OPS.alloc rfl rfl rfl rfl (zero_run rfl) rfl H ?_
  clear H; intro g8 w H
  refine OPS.val rfl rfl rfl (Ev.asI rfl) ?_
  refine OPS.nil ?_
  refine WP.seq ?_
  refine WP.seq ?_
  refine WP.region ?_
  refine OPS.val rfl rfl rfl ((by first | exact Ev.loadO 0 H rfl (agg_run rfl) (size_run rfl) (by first | assumption | rfl) rfl | exact Ev.loadO 1 H rfl (agg_run rfl) (size_run rfl) (by first | assumption | rfl) rfl | exact Ev.loadO 2 H rfl (agg_run rfl) (size_run rfl) (by first | assumption | rfl) rfl | exact Ev.loadO 3 H rfl (agg_run rfl) (size_run rfl) (by first | assumption | rfl) rfl | exact Ev.loadO 4 H rfl (agg_run rfl) (size_run rfl) (by first | assumption | rfl) rfl | exact Ev.loadO 5 H rfl (agg_run rfl) (size_run rfl) (by first | assumption | rfl) rfl | exact Ev.loadO 6 H rfl (agg_run rfl) (size_run rfl) (by first | assumption | rfl) rfl | (change Ev _ _ _ _ (Op.load 24 (Operand.tmp 4)) _; fail))) ?_
  refine OPS.call (d := some 15) rfl rfl rfl (EvC.func (fun_run rfl)) (eventFleet f A ca B cb _ (hf.sh H)) ?_
  rintro _ w ⟨rfl, hb⟩
  refine ⟨_, rfl, ?_⟩
  replace H := H.toBelow hb; clear hb
  refine OPS.val rfl rfl rfl (Ev.asI rfl) ?_
  refine OPS.nil ?_
  refine WP.seq ?_
  refine WP.region ?_
  refine OPS.val rfl rfl rfl (Ev.mvI rfl) ?_
  refine OPS.val rfl rfl rfl (Ev.neq rfl rfl) ?_
  refine OPS.nil ?_
  refine WP.cond rfl (fun hc2 => ?_) (fun hc2 => ?_)
  · refine WP.seq ?_
    refine WP.region ?_
    refine OPS.val rfl rfl rfl (Ev.build (bld_42_ (e := fun _ => .int .i64 0))) ?_
    refine OPS.val rfl rfl rfl (Ev.mvI rfl) ?_
    first | refine OPS.store 0 _ rfl rfl rfl (size_run rfl) rfl (cA rfl) rfl rfl H rfl (by simp) ?_ | refine OPS.store 1 _ rfl rfl rfl (size_run rfl) rfl (cA rfl) rfl rfl H rfl (by simp) ?_ | refine OPS.store 2 _ rfl rfl rfl (size_run rfl) rfl (cA rfl) rfl rfl H rfl (by simp) ?_ | refine OPS.store 3 _ rfl rfl rfl (size_run rfl) rfl (cA rfl) rfl rfl H rfl (by simp) ?_ | refine OPS.store 4 _ rfl rfl rfl (size_run rfl) rfl (cA rfl) rfl rfl H rfl (by simp) ?_ | refine OPS.store 5 _ rfl rfl rfl (size_run rfl) rfl (cA rfl) rfl rfl H rfl (by simp) ?_ | refine OPS.store 6 _ rfl rfl rfl (size_run rfl) rfl (cA rfl) rfl rfl H rfl (by simp) ?_ | refine OPS.store 7 _ rfl rfl rfl (size_run rfl) rfl (cA rfl) rfl rfl H rfl (by simp) ?_ | refine OPS.store 8 _ rfl rfl rfl (size_run rfl) rfl (cA rfl) rfl rfl H rfl (by simp) ?_
    clear H; intro w H; try simp only [List.set_cons_zero, List.set_cons_succ, putL, Nat.zero_add] at H
    refine OPS.val rfl rfl rfl (Ev.asI rfl) ?_
    refine OPS.nil ?_
    refine WP.ret ⟨[_, _], ⟨(by first | exact resCellA 0 H rfl (agg_run rfl) (size_run rfl) (by first | assumption | rfl) rfl | exact resCellA 1 H rfl (agg_run rfl) (size_run rfl) (by first | assumption | rfl) rfl | exact resCellA 2 H rfl (agg_run rfl) (size_run rfl) (by first | assumption | rfl) rfl | exact resCellA 3 H rfl (agg_run rfl) (size_run rfl) (by first | assumption | rfl) rfl | exact resCellA 4 H rfl (agg_run rfl) (size_run rfl) (by first | assumption | rfl) rfl | exact resCellA 5 H rfl (agg_run rfl) (size_run rfl) (by first | assumption | rfl) rfl | exact resCellA 6 H rfl (agg_run rfl) (size_run rfl) (by first | assumption | rfl) rfl), rfl, trivial⟩, ?_⟩
    have h0 : flErr f ≠ 0 := by simpa using hc2
    have h1 : atE f t = flErr f := if_pos h0
    have h2 : atS f es b t = ⟨0, 0, 0, false, 0⟩ := if_neg (by rw [h1]; exact h0)
    exact ⟨by rw [h1, h2]; rfl, H.drop (List.nil_sublist _)⟩
  have h0 : flErr f = 0 := by simpa using hc2
  refine WP.skip ?_
  refine WP.seq ?_
  refine WP.block ?_
  refine WP.seq ?_
  refine WP.region ?_
  refine OPS.val rfl rfl rfl (Ev.mvI rfl) ?_
  refine OPS.val rfl rfl rfl (Ev.lss rfl rfl) ?_
  refine OPS.val rfl rfl rfl (Ev.mvB rfl) ?_
  refine OPS.gval rfl rfl rfl rfl rfl (fun hg => Ev.mvI (by first | rfl | exact gvE hg rfl)) ?_
  refine OPS.gval rfl rfl rfl rfl rfl (fun hg => Ev.fieldAddr (fld_run rfl) (by first | rfl | exact gvE hg rfl)) ?_
  refine OPS.gval rfl rfl rfl rfl rfl (fun hg => Ev.load1 (agg_run rfl) (by first | rfl | exact gvE hg rfl) (by first | exact H.ldL 0 rfl _ rfl | exact H.ldL 1 rfl _ rfl | exact H.ldL 2 rfl _ rfl | exact H.ldL 3 rfl _ rfl | exact H.ldL 4 rfl _ rfl | exact H.ldL 5 rfl _ rfl | exact H.ldL 6 rfl _ rfl | exact H.ldL 7 rfl _ rfl | exact H.ld0 (by assumption) | assumption | exact H.ldS (by assumption) (by assumption))) ?_
  refine OPS.gval rfl rfl rfl rfl rfl (fun hg => Ev.geq (by first | rfl | exact gvE hg rfl) (by first | rfl | exact gvE hg rfl)) ?_
  refine OPS.val rfl rfl rfl ((by first | exact Ev.pickOr rfl rfl rfl | exact Ev.pickAnd rfl rfl rfl)) ?_
  refine OPS.val rfl rfl rfl (Ev.asB rfl) ?_
  refine OPS.nil ?_
  refine WP.cond rfl (fun hc4 => ?_) (fun hc4 => ?_)
  · refine WP.seq ?_
    have hn : ¬ ((b : Int) < 0) ∧ ¬ (f.bk ≤ (b : Int)) := ⟨by omega, by omega⟩
    simp [hn.1, hn.2] at hc4
  refine WP.seq ?_
  refine WP.region ?_
  refine OPS.val rfl rfl rfl (Ev.load1 (agg_run rfl) rfl (by first | exact H.ldL 0 rfl _ rfl | exact H.ldL 1 rfl _ rfl | exact H.ldL 2 rfl _ rfl | exact H.ldL 3 rfl _ rfl | exact H.ldL 4 rfl _ rfl | exact H.ldL 5 rfl _ rfl | exact H.ldL 6 rfl _ rfl | exact H.ldL 7 rfl _ rfl | exact H.ld0 (by assumption) | assumption | exact H.ldS (by assumption) (by assumption))) ?_
  refine OPS.val rfl rfl rfl (Ev.lss rfl rfl) ?_
  refine OPS.val rfl rfl rfl (Ev.mvB rfl) ?_
  refine OPS.gval rfl rfl rfl rfl rfl (fun hg => Ev.load1 (agg_run rfl) (by first | rfl | exact gvE hg rfl) (by first | exact H.ldL 0 rfl _ rfl | exact H.ldL 1 rfl _ rfl | exact H.ldL 2 rfl _ rfl | exact H.ldL 3 rfl _ rfl | exact H.ldL 4 rfl _ rfl | exact H.ldL 5 rfl _ rfl | exact H.ldL 6 rfl _ rfl | exact H.ldL 7 rfl _ rfl | exact H.ld0 (by assumption) | assumption | exact H.ldS (by assumption) (by assumption))) ?_
  refine OPS.gval rfl rfl rfl rfl rfl (fun hg => Ev.gtr (by first | rfl | exact gvE hg rfl) (by first | rfl | exact gvE hg rfl)) ?_
  refine OPS.val rfl rfl rfl ((by first | exact Ev.pickOr rfl rfl rfl | exact Ev.pickAnd rfl rfl rfl)) ?_
  refine OPS.val rfl rfl rfl (Ev.asB rfl) ?_
  refine OPS.nil ?_
  refine WP.cond rfl (fun hc6 => ?_) (fun hc6 => ?_)
  · refine WP.seq ?_
    refine WP.region ?_
    refine OPS.val rfl rfl rfl (Ev.build (bld_42_ (e := fun _ => .int .i64 0))) ?_
    first | refine OPS.store 0 _ rfl rfl rfl (size_run rfl) rfl (cA rfl) rfl rfl H rfl (by simp) ?_ | refine OPS.store 1 _ rfl rfl rfl (size_run rfl) rfl (cA rfl) rfl rfl H rfl (by simp) ?_ | refine OPS.store 2 _ rfl rfl rfl (size_run rfl) rfl (cA rfl) rfl rfl H rfl (by simp) ?_ | refine OPS.store 3 _ rfl rfl rfl (size_run rfl) rfl (cA rfl) rfl rfl H rfl (by simp) ?_ | refine OPS.store 4 _ rfl rfl rfl (size_run rfl) rfl (cA rfl) rfl rfl H rfl (by simp) ?_ | refine OPS.store 5 _ rfl rfl rfl (size_run rfl) rfl (cA rfl) rfl rfl H rfl (by simp) ?_ | refine OPS.store 6 _ rfl rfl rfl (size_run rfl) rfl (cA rfl) rfl rfl H rfl (by simp) ?_ | refine OPS.store 7 _ rfl rfl rfl (size_run rfl) rfl (cA rfl) rfl rfl H rfl (by simp) ?_ | refine OPS.store 8 _ rfl rfl rfl (size_run rfl) rfl (cA rfl) rfl rfl H rfl (by simp) ?_
    clear H; intro w H; try simp only [List.set_cons_zero, List.set_cons_succ, putL, Nat.zero_add] at H
    refine OPS.val rfl rfl rfl (Ev.asI rfl) ?_
    refine OPS.nil ?_
    refine WP.ret ⟨[_, _], ⟨(by first | exact resCellA 0 H rfl (agg_run rfl) (size_run rfl) (by first | assumption | rfl) rfl | exact resCellA 1 H rfl (agg_run rfl) (size_run rfl) (by first | assumption | rfl) rfl | exact resCellA 2 H rfl (agg_run rfl) (size_run rfl) (by first | assumption | rfl) rfl | exact resCellA 3 H rfl (agg_run rfl) (size_run rfl) (by first | assumption | rfl) rfl | exact resCellA 4 H rfl (agg_run rfl) (size_run rfl) (by first | assumption | rfl) rfl | exact resCellA 5 H rfl (agg_run rfl) (size_run rfl) (by first | assumption | rfl) rfl | exact resCellA 6 H rfl (agg_run rfl) (size_run rfl) (by first | assumption | rfl) rfl), rfl, trivial⟩, ?_⟩
    have h3 : t < 0 ∨ 4294943999 < t := by simpa using hc6
    have h1 : atE f t = 1 := by rw [atE, if_neg (by simpa using h0), if_pos h3]
    have h2 : atS f es b t = ⟨0, 0, 0, false, 0⟩ := if_neg (by rw [h1]; simp)
    exact ⟨by rw [h1, h2]; rfl, H.drop (List.nil_sublist _)⟩
  have h3 : ¬ (t < 0 ∨ 4294943999 < t) := by
    intro h
    have h4 : (decide (t < 0) || decide (4294943999 < t)) = true := by simpa using h
    have h5 := hc6
    rw [h4] at h5; cases h5
  have h1 : atE f t = 0 := by rw [atE, if_neg (by simpa using h0), if_neg h3]
  have h2 : atS f es b t = (spS f (upto t es)).getD b default := if_pos h1
  refine WP.skip ?_
  refine WP.seq ?_
  refine WP.region ?_
  refine OPS.val rfl rfl rfl (Ev.mvS rfl) ?_
  refine OPS.call (d := some 39) rfl rfl rfl (EvC.func (fun_run rfl)) (evSet El es ce w (hz.sh H) hok (by omega) hE) ?_
  rintro _ w ⟨A', c, Lo, rfl, hO, Hc⟩
  refine ⟨_, rfl, ?_⟩
  replace H := SH.call (Lv := []) (by rw [List.append_nil]; exact H) Hc
  have hgt : g7 ∉ Lo.map (·.g) := by
    have hn := H.nodup
    rw [List.map_append, List.nodup_append] at hn
    intro hm
    exact hn.2.2 g7 (by simp) g7 hm rfl
  refine OPS.val rfl rfl rfl (Ev.makeFunc) ?_
  refine OPS.call (d := some 41) rfl rfl rfl (EvC.func (fun_run rfl)) (evDelS A' es c Lo g7 t w hO (H.restart (List.sublist_append_right _ _)) hok (by omega) hgt (H.ldL 1 rfl 0 rfl)) ?_
  rintro _ w ⟨L', rfl, Hc, hrows⟩
  refine ⟨_, rfl, ?_⟩
  replace H := SH.call H Hc
  have hup : (upto t es).Sublist es := List.takeWhile_sublist _
  have hAc : A' = none → c = 0 := by
    rintro rfl
    rcases hO.form with ⟨_, _, h, _⟩ | ⟨_, _, h, _⟩
    · exact h
    · cases h
  refine OPS.val rfl rfl rfl (Ev.asS rfl) ?_
  refine OPS.nil ?_
  refine WP.seq ?_
  refine WP.region ?_
  refine OPS.val rfl rfl rfl ((by first | exact Ev.loadO 0 H rfl (agg_run rfl) (size_run rfl) (by first | assumption | rfl) rfl | exact Ev.loadO 1 H rfl (agg_run rfl) (size_run rfl) (by first | assumption | rfl) rfl | exact Ev.loadO 2 H rfl (agg_run rfl) (size_run rfl) (by first | assumption | rfl) rfl | exact Ev.loadO 3 H rfl (agg_run rfl) (size_run rfl) (by first | assumption | rfl) rfl | exact Ev.loadO 4 H rfl (agg_run rfl) (size_run rfl) (by first | assumption | rfl) rfl | exact Ev.loadO 5 H rfl (agg_run rfl) (size_run rfl) (by first | assumption | rfl) rfl | exact Ev.loadO 6 H rfl (agg_run rfl) (size_run rfl) (by first | assumption | rfl) rfl | (change Ev _ _ _ _ (Op.load 24 (Operand.tmp 4)) _; fail))) ?_
  refine OPS.val rfl rfl rfl (Ev.mvS rfl) ?_
  refine OPS.call (d := some 45) rfl rfl rfl (EvC.func (fun_run rfl)) (spots f h0 A ca B cb A' (upto t es) c w (hf.sh H) hrows (hok.sub hup) (fun x hx => hfit x (hup.subset hx)) (by have := hup.length_le; omega) hAc) ?_
  rintro _ w ⟨gP, rfl, hP, hlen, Hc⟩
  refine ⟨_, rfl, ?_⟩
  replace H := H.toBelow Hc.below
  have hbl : b < (spS f (upto t es)).length := by omega
  have hgd : (spS f (upto t es)).getD b default = (spS f (upto t es))[b] := by rw [List.getD_eq_getElem?_getD, List.getElem?_eq_getElem hbl]; rfl
  have hcl := rowIn (SH.of1 hP) 0 rfl hbl
  rw [← hgd] at hcl
  refine OPS.val rfl rfl rfl (Ev.mvT rfl) ?_
  refine OPS.val rfl rfl rfl (Ev.extract rfl rfl) ?_
  refine OPS.val rfl rfl rfl (Ev.extract rfl rfl) ?_
  refine OPS.val rfl rfl rfl (Ev.asS rfl) ?_
  refine OPS.val rfl rfl rfl (Ev.asI rfl) ?_
  refine OPS.nil ?_
  refine WP.seq ?_
  refine WP.seq ?_
  refine WP.region ?_
  refine OPS.val rfl rfl rfl (Ev.mvI rfl) ?_
  refine OPS.val rfl rfl rfl (Ev.neq rfl rfl) ?_
  refine OPS.nil ?_
  refine WP.cond rfl (fun hc10 => ?_) (fun hc10 => ?_)
  · refine WP.seq ?_
    refine WP.region ?_
    refine OPS.val rfl rfl rfl (Ev.build (bld_42_ (e := fun _ => .int .i64 0))) ?_
    refine OPS.val rfl rfl rfl (Ev.mvI rfl) ?_
    first | refine OPS.store 0 _ rfl rfl rfl (size_run rfl) rfl (cA rfl) rfl rfl H rfl (by simp) ?_ | refine OPS.store 1 _ rfl rfl rfl (size_run rfl) rfl (cA rfl) rfl rfl H rfl (by simp) ?_ | refine OPS.store 2 _ rfl rfl rfl (size_run rfl) rfl (cA rfl) rfl rfl H rfl (by simp) ?_ | refine OPS.store 3 _ rfl rfl rfl (size_run rfl) rfl (cA rfl) rfl rfl H rfl (by simp) ?_ | refine OPS.store 4 _ rfl rfl rfl (size_run rfl) rfl (cA rfl) rfl rfl H rfl (by simp) ?_ | refine OPS.store 5 _ rfl rfl rfl (size_run rfl) rfl (cA rfl) rfl rfl H rfl (by simp) ?_ | refine OPS.store 6 _ rfl rfl rfl (size_run rfl) rfl (cA rfl) rfl rfl H rfl (by simp) ?_ | refine OPS.store 7 _ rfl rfl rfl (size_run rfl) rfl (cA rfl) rfl rfl H rfl (by simp) ?_ | refine OPS.store 8 _ rfl rfl rfl (size_run rfl) rfl (cA rfl) rfl rfl H rfl (by simp) ?_
    clear H; intro w H; try simp only [List.set_cons_zero, List.set_cons_succ, putL, Nat.zero_add] at H
    refine OPS.val rfl rfl rfl (Ev.asI rfl) ?_
    refine OPS.nil ?_
    refine WP.ret ⟨[_, _], ⟨(by first | exact resCellA 0 H rfl (agg_run rfl) (size_run rfl) (by first | assumption | rfl) rfl | exact resCellA 1 H rfl (agg_run rfl) (size_run rfl) (by first | assumption | rfl) rfl | exact resCellA 2 H rfl (agg_run rfl) (size_run rfl) (by first | assumption | rfl) rfl | exact resCellA 3 H rfl (agg_run rfl) (size_run rfl) (by first | assumption | rfl) rfl | exact resCellA 4 H rfl (agg_run rfl) (size_run rfl) (by first | assumption | rfl) rfl | exact resCellA 5 H rfl (agg_run rfl) (size_run rfl) (by first | assumption | rfl) rfl | exact resCellA 6 H rfl (agg_run rfl) (size_run rfl) (by first | assumption | rfl) rfl), rfl, trivial⟩, ?_⟩
    cases hc10
  refine WP.skip ?_
  refine WP.seq ?_
  refine WP.region ?_
  refine OPS.val rfl rfl rfl (Ev.mvS rfl) ?_
  refine OPS.val rfl rfl rfl (Ev.mvI rfl) ?_
  refine OPS.val rfl rfl rfl (Ev.indexAddr (j := b) (el_run rfl) (size_run rfl) rfl rfl rfl hbl) ?_
  refine OPS.val rfl rfl rfl (Ev.loadN (spC ((spS f (upto t es)).getD b default)) (agg_run rfl) (size_run rfl) rfl hcl) ?_
  first | refine OPS.store 0 _ rfl rfl rfl (size_run rfl) rfl (cA rfl) rfl rfl H rfl (by simp) ?_ | refine OPS.store 1 _ rfl rfl rfl (size_run rfl) rfl (cA rfl) rfl rfl H rfl (by simp) ?_ | refine OPS.store 2 _ rfl rfl rfl (size_run rfl) rfl (cA rfl) rfl rfl H rfl (by simp) ?_ | refine OPS.store 3 _ rfl rfl rfl (size_run rfl) rfl (cA rfl) rfl rfl H rfl (by simp) ?_ | refine OPS.store 4 _ rfl rfl rfl (size_run rfl) rfl (cA rfl) rfl rfl H rfl (by simp) ?_ | refine OPS.store 5 _ rfl rfl rfl (size_run rfl) rfl (cA rfl) rfl rfl H rfl (by simp) ?_ | refine OPS.store 6 _ rfl rfl rfl (size_run rfl) rfl (cA rfl) rfl rfl H rfl (by simp) ?_ | refine OPS.store 7 _ rfl rfl rfl (size_run rfl) rfl (cA rfl) rfl rfl H rfl (by simp) ?_ | refine OPS.store 8 _ rfl rfl rfl (size_run rfl) rfl (cA rfl) rfl rfl H rfl (by simp) ?_
  clear H; intro w H; try simp only [List.set_cons_zero, List.set_cons_succ, putL, Nat.zero_add] at H
  refine OPS.val rfl rfl rfl (Ev.asI rfl) ?_
  refine OPS.nil ?_
  refine WP.ret ⟨[_, _], ⟨(by first | exact resCellA 0 H rfl (agg_run rfl) (size_run rfl) (by first | assumption | rfl) rfl | exact resCellA 1 H rfl (agg_run rfl) (size_run rfl) (by first | assumption | rfl) rfl | exact resCellA 2 H rfl (agg_run rfl) (size_run rfl) (by first | assumption | rfl) rfl | exact resCellA 3 H rfl (agg_run rfl) (size_run rfl) (by first | assumption | rfl) rfl | exact resCellA 4 H rfl (agg_run rfl) (size_run rfl) (by first | assumption | rfl) rfl | exact resCellA 5 H rfl (agg_run rfl) (size_run rfl) (by first | assumption | rfl) rfl | exact resCellA 6 H rfl (agg_run rfl) (size_run rfl) (by first | assumption | rfl) rfl), rfl, trivial⟩, ?_⟩
  exact ⟨by rw [h1, h2]; rfl, H.drop (List.nil_sublist _)⟩
end Go.Proofs.Ytchjbjplddhknaa
