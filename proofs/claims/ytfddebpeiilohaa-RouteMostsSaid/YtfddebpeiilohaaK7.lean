/-
  Walks: the visitor of best; best.
-/
import Derived.Test.YtfddebpeiilohaaT12
import Derived.Laws.Bits128
import Derived.Test.YtfddebpeiilohaaT6
set_option linter.all false
namespace Go.Proofs.Ytfddebpeiilohaa
open Go Go.W Go.RowKit

section
variable (n : Int) (l : List Edg) (ts : List Truck) (ns : List Need) (hd rt : Int)
theorem fndV_one (s : Option (List Int)) (A : Option Addr) (c : Nat) : ((fndV n l ts ns hd rt s A c).all (·.oneCell')) = true := by cases s <;> rfl
theorem fndV_put (s s' : Option (List Int)) (A A' : Option Addr) (c c' : Nat) : putL (fndV n l ts ns hd rt s A c) 0 (fndV n l ts ns hd rt s' A' c') = fndV n l ts ns hd rt s' A' c' := by cases s <;> cases s' <;> rfl
theorem takes_bet (s : Option (List Int)) (y : List Int) : bet (mvL ns) (secsD n l ts ns hd rt) s (some y) = if takesB n l ts ns hd rt s y = true then some y else s := by
  cases s with
  | none => rfl
  | some x =>
    by_cases h : worse (mvL ns) (secsD n l ts ns hd rt) x y
    · rw [show takesB n l ts ns hd rt (some x) y = true from decide_eq_true h, if_pos rfl]; exact if_pos h
    · rw [if_neg (by simpa [takesB] using h)]; exact if_neg h
end
set_option maxHeartbeats 4000000 in
theorem routeBestV (n hd rt : Int) (A B C : Option Addr) (l : List Edg) (ts : List Truck) (ns : List Need) (ca cb cc g3 g4 g7 : Nat) (wB : World) (hz : EdgsAt wB A l) (ht : RowsAt 4 truckCells wB B ts) (hn : RowsAt 2 needCells wB C ns) (hcc : ns.length ≤ cc)
    (h3 : cellsAt wB g3 0 [I n, .slice A l.length ca, .slice B ts.length cb, .slice C ns.length cc, I hd]) (h4 : wB.cell? ⟨g4, 0, none⟩ = some (I rt)) (hm : ∀ x ∈ ns, -32 ≤ x.move ∧ x.move ≤ 32)
    (s : Option (List Int)) (Lv : List Blk) (w0 : World) (O : Option Addr) (o : List Int) (co : Nat) (hB : Below wB.heap.size wB w0) (hR : VisR n l ts ns hd rt wB g7 s Lv) (H0 : SH w0 (Lv.map (·.g)) w0 Lv) (ho : IntsAt w0 O o) (hO : O = none → co = 0) (hlc : o.length ≤ co) (hol : o.length ≤ 16) :
    Calls Try.prog 41 ([Value.slice O o.length co] ++ [Value.pointer (some ⟨g3, 0, none⟩), Value.pointer (some ⟨g4, 0, none⟩), Value.pointer (some ⟨g7, 0, none⟩)]).toArray w0 fun e w' => ∃ Lv', e = .returned (.tuple #[]) ∧ VisR n l ts ns hd rt wB g7 (visB (mvL ns) (secsD n l ts ns hd rt) (feasB n l ts ns hd rt) s o) Lv' ∧ SH w0 (Lv.map (·.g)) w' Lv' := by
  obtain ⟨hge, hxl, A', c', Lf, rfl, hOF⟩ := hR
  obtain ⟨S, hS⟩ : ∃ S, S = List.map (·.g) (⟨g7, 49, fndV n l ts ns hd rt s A' c'⟩ :: Lf) := ⟨_, rfl⟩
  rw [← hS] at H0 hge ⊢
  have hbel : ∀ {w : World} {L : List Blk}, SH w0 S w L → Below wB.heap.size wB w := fun {w L} H =>
    ⟨H.os.trans hB.os, H.tape.trans hB.tape, H.output.trans hB.output, Nat.le_trans hB.size H.size, fun k hk => (H.low k (Nat.lt_of_lt_of_le hk hB.size) (fun hm => by have := hge k hm; omega)).trans (hB.block k hk)⟩
  have H := H0
  have hW := Below.refl w0.heap.size w0
  simp only [List.cons_append, List.nil_append]
  refine Calls.ofWP Try.func41 rfl Try.results41 Try.ntmps41 rfl ?_
  refine WP.seq ?_
  refine WP.region ?_
  refine OPS.val rfl rfl rfl ((by (change Ev _ _ _ _ (Op.load 28 (Operand.tmp 1)) _; exact Ev.loadN [I n, .slice A l.length ca, .slice B ts.length cb, .slice C ns.length cc, I hd] (agg_run rfl) (size_run rfl) rfl (cellsAt_below hB h3)))) ?_
  refine OPS.val rfl rfl rfl (Ev.load1 (agg_run rfl) rfl (cell_below hB h4)) ?_
  refine OPS.val rfl rfl rfl (Ev.mvS rfl) ?_
  refine OPS.val rfl rfl rfl (Ev.build (bld_34_0_1 rfl rfl)) ?_
  refine OPS.call (d := some 12) rfl rfl rfl (EvC.func (fun_run rfl)) (truckDriving n hd rt A B C O l ts ns o ca cb cc co w0 (hz.below hB) (ht.below hB) (hn.below hB) hcc ho (by unfold maxLen; omega) hlc) ?_
  rintro _ w ⟨rfl, hb⟩
  refine ⟨_, rfl, ?_⟩
  replace H := H.toBelow hb
  replace hW := hb
  clear hb
  refine OPS.val rfl rfl rfl (Ev.mvT rfl) ?_
  refine OPS.val rfl rfl rfl (Ev.extract rfl rfl) ?_
  refine OPS.val rfl rfl rfl (Ev.extract rfl rfl) ?_
  refine OPS.val rfl rfl rfl (Ev.asI rfl) ?_
  refine OPS.val rfl rfl rfl (Ev.asI rfl) ?_
  refine OPS.nil ?_
  refine WP.seq ?_
  refine WP.region ?_
  refine OPS.val rfl rfl rfl (Ev.mvI rfl) ?_
  refine OPS.val rfl rfl rfl (Ev.eql rfl rfl) ?_
  refine OPS.nil ?_
  refine WP.cond rfl (fun hc1 => ?_) (fun hc1 => ?_)
  · have hfe : walkE n l ts ns hd rt o = 0 := by simpa using hc1
    have hF : feasB n l ts ns hd rt o = true := decide_eq_true hfe
    have hin : ∀ i ∈ o, 0 ≤ i ∧ i < ns.length := by
      have h : routeErr ts ns rt o = 0 := by
        unfold walkE at hfe
        split at hfe
        · rename_i h1; exact absurd hfe h1
        · split at hfe
          · rename_i h1; exact absurd hfe h1
          · rename_i h1; simpa using h1
      exact (routeOk_of h).2.1
    have hvis : visB (mvL ns) (secsD n l ts ns hd rt) (feasB n l ts ns hd rt) s o = bet (mvL ns) (secsD n l ts ns hd rt) s (some o) := if_pos hF
    rw [hvis]
    have Hf := H
    replace H := H.drop (List.nil_sublist _)
    refine WP.rheldC [17, 18, 19, 20, 21, 22, 23, 24, 25] (fun _ w' => ∃ Lv', VisR n l ts ns hd rt wB g7 (bet (mvL ns) (secsD n l ts ns hd rt) s (some o)) Lv' ∧ SH w0 S w' Lv') mixed H ?_ ?_
    · clear H; intro w hbw2 H
      refine OPH.take 1 rfl rfl rfl rfl (by kernel_rfl) (by kernel_rfl) (by kernel_rfl) rfl (by exact H) (fun w H => Ev.mvS rfl) ?_
      refine OPH.take 3 rfl rfl rfl rfl (by kernel_rfl) (by kernel_rfl) (by kernel_rfl) rfl (by exact H) (fun w H => (by refine Ev.loadN (b := g3) (o := 0) [I n, .slice A l.length ca, .slice B ts.length cb, .slice C ns.length cc, I hd] ?_ ?_ ?_ (cellsAt_below (hbel H) h3); exact agg_run rfl; exact size_run rfl; rfl)) ?_
      refine OPH.take 4 rfl rfl rfl rfl (by kernel_rfl) (by kernel_rfl) (by kernel_rfl) rfl (by exact H) (fun w H => Ev.mvS rfl) ?_
      refine OPH.take 6 rfl rfl rfl rfl (by kernel_rfl) (by kernel_rfl) (by kernel_rfl) rfl (by exact H) (fun w H => Ev.mvI rfl) ?_
      refine OPH.all [0, 2] (by kernel_rfl) (by simp) rfl ?_
      intro i hi; simp only [List.mem_cons, List.not_mem_nil, or_false] at hi
      rcases hi with rfl | rfl
      · refine ⟨_, rfl, ?_⟩
        try replace Hf := Hf.toBelow hbw2
        refine OPS.val rfl rfl rfl (Ev.loadO 0 Hf rfl (agg_run rfl) (size_run rfl) (fndV_len n l ts ns hd rt s A' c') rfl) ?_
        refine OPS.nil ?_
        refine ⟨(by exact H), ?_⟩
        refine OPH.all [2] (by kernel_rfl) (by simp) rfl ?_
        intro i hi; simp only [List.mem_cons, List.not_mem_nil, or_false] at hi
        rcases hi with rfl
        · refine ⟨_, rfl, ?_⟩
          try replace Hf := Hf.toBelow hbw2
          try replace hW := hW.trans (hbw2.mono hW.size)
          refine OPS.call (d := some 19) rfl rfl rfl (EvC.func (fun_run rfl)) (slClone O o co w (ho.below hW) (by omega) hO) ?_
          rintro _ w ⟨B', cb', Lo, rfl, hOo, Hc⟩
          refine ⟨_, rfl, ?_⟩
          replace hW := hW.trans (Hc.below.mono hW.size)
          replace Hf := SH.call (L1 := _ :: Lf) (Lv := []) (by simpa using Hf) Hc
          clear Hc
          have H := Hf.drop (List.nil_sublist _)
          refine OPS.nil ?_
          refine ⟨(by exact H), ?_⟩
          refine OPH.all [5] (by kernel_rfl) (by simp) rfl ?_
          intro i hi; simp only [List.mem_cons, List.not_mem_nil, or_false] at hi
          rcases hi with rfl
          · refine ⟨_, rfl, ?_⟩
            refine OPS.call (d := some 22) rfl rfl rfl (EvC.func (fun_run rfl)) (routeMoved n hd A B C O l ts ns o ca cb cc co w (hn.below (hbel Hf)) hm (ho.below hW) (by omega) hin) ?_
            rintro _ w ⟨rfl, hb'⟩
            refine ⟨_, rfl, ?_⟩
            replace Hf := Hf.toBelow hb'
            replace hW := hW.trans (hb'.mono hW.size)
            clear hb'
            have H := Hf.drop (List.nil_sublist _)
            refine OPS.nil ?_
            refine ⟨(by exact H), ?_⟩
            refine OPH.take 7 rfl rfl rfl rfl (by kernel_rfl) (by kernel_rfl) (by kernel_rfl) rfl (by exact H) (fun w H => Ev.build (bld_49_0_1_2_3 rfl rfl rfl rfl)) ?_
            refine OPH.all [8] (by kernel_rfl) (by simp) rfl ?_
            intro i hi; simp only [List.mem_cons, List.not_mem_nil, or_false] at hi
            rcases hi with rfl
            · refine ⟨_, rfl, ?_⟩
              refine OPS.call (d := some 25) rfl rfl rfl (EvC.func (fun_run rfl)) (betterO n l ts ns hd rt s A' c' B' o cb' w (fun x hx => ⟨by subst hx; exact (OwnS.ones (R := _ :: Lo) hOF (Hf.perm (List.Perm.cons _ List.perm_append_comm))).1, hxl x hx⟩) (hOo.ones Hf).1 (by omega)) ?_
              rintro _ w ⟨rfl, hb'⟩
              refine ⟨_, rfl, ?_⟩
              replace Hf := Hf.toBelow hb'
              clear hb'
              have H := Hf.drop (List.nil_sublist _)
              refine OPS.nil ?_
              refine ⟨(by exact H), ?_⟩
              refine OPH.all [9] (by kernel_rfl) (by simp) rfl ?_
              intro i hi; simp only [List.mem_cons, List.not_mem_nil, or_false] at hi
              rcases hi with rfl
              · refine ⟨_, rfl, ?_⟩
                refine OPS.store (vs := fndV n l ts ns hd rt (bet (mvL ns) (secsD n l ts ns hd rt) s (some o)) (if takesB n l ts ns hd rt s o = true then B' else A') (if takesB n l ts ns hd rt s o = true then cb' else c')) 0 _ rfl rfl rfl (size_run rfl) rfl (cA rfl) (fndV_len n l ts ns hd rt _ _ _) (fndV_one n l ts ns hd rt _ _ _) Hf rfl (by rw [fndV_len]; exact Nat.le_refl _) ?_
                clear H Hf; intro w Hf
                have H := Hf.drop (List.nil_sublist _)
                replace Hf : ∃ Lv', VisR n l ts ns hd rt wB g7 (bet (mvL ns) (secsD n l ts ns hd rt) s (some o)) Lv' ∧ SH w0 S w Lv' := by
                  replace Hf : SH w0 S w (⟨g7, 49, putL (fndV n l ts ns hd rt s A' c') 0 (fndV n l ts ns hd rt (bet (mvL ns) (secsD n l ts ns hd rt) s (some o)) (if takesB n l ts ns hd rt s o = true then B' else A') (if takesB n l ts ns hd rt s o = true then cb' else c'))⟩ :: (Lf ++ Lo)) := Hf
                  rw [fndV_put] at Hf
                  have hgeH : ∀ {L : List Blk}, SH w0 S w L → ∀ g ∈ L.map (·.g), wB.heap.size ≤ g := fun {L} H g hg => by
                    obtain ⟨b, hb, rfl⟩ := List.mem_map.1 hg
                    rcases H.may b hb with h | h
                    · exact Nat.le_trans hB.size h
                    · exact hge _ h
                  rw [takes_bet] at Hf ⊢
                  by_cases htk : takesB n l ts ns hd rt s o = true
                  · rw [if_pos htk, if_pos htk, if_pos htk] at Hf
                    rw [if_pos htk]
                    have H2 := Hf.drop (List.Sublist.cons_cons _ (List.sublist_append_right Lf Lo))
                    exact ⟨_, ⟨hgeH H2, fun x hx => by cases hx; omega, B', cb', Lo, rfl, hOo⟩, H2⟩
                  · rw [if_neg htk, if_neg htk, if_neg htk] at Hf
                    rw [if_neg htk]
                    have H2 := Hf.drop (List.Sublist.cons_cons _ (List.sublist_append_left Lf Lo))
                    exact ⟨_, ⟨hgeH H2, hxl, A', c', Lf, rfl, hOF⟩, H2⟩
                refine OPS.nil ?_
                refine ⟨(by exact H), ?_⟩
                refine OPH.done (by kernel_rfl) ?_
                exact ⟨(by repeat (first | exact Agree.refl _ _ | exact Agree.mix _ _ _ | refine Agree.upd rfl ?_ | refine Agree.mix2 rfl ?_)), Hf⟩
      · refine ⟨_, rfl, ?_⟩
        try replace Hf := Hf.toBelow hbw2
        try replace hW := hW.trans (hbw2.mono hW.size)
        refine OPS.call (d := some 19) rfl rfl rfl (EvC.func (fun_run rfl)) (slClone O o co w (ho.below hW) (by omega) hO) ?_
        rintro _ w ⟨B', cb', Lo, rfl, hOo, Hc⟩
        refine ⟨_, rfl, ?_⟩
        replace hW := hW.trans (Hc.below.mono hW.size)
        replace Hf := SH.call (L1 := _ :: Lf) (Lv := []) (by simpa using Hf) Hc
        clear Hc
        have H := Hf.drop (List.nil_sublist _)
        refine OPS.nil ?_
        refine ⟨(by exact H), ?_⟩
        refine OPH.all [0, 5] (by kernel_rfl) (by simp) rfl ?_
        intro i hi; simp only [List.mem_cons, List.not_mem_nil, or_false] at hi
        rcases hi with rfl | rfl
        · refine ⟨_, rfl, ?_⟩
          try replace Hf := Hf.toBelow hbw2
          refine OPS.val rfl rfl rfl (Ev.loadO 0 Hf rfl (agg_run rfl) (size_run rfl) (fndV_len n l ts ns hd rt s A' c') rfl) ?_
          refine OPS.nil ?_
          refine ⟨(by exact H), ?_⟩
          refine OPH.all [5] (by kernel_rfl) (by simp) rfl ?_
          intro i hi; simp only [List.mem_cons, List.not_mem_nil, or_false] at hi
          rcases hi with rfl
          · refine ⟨_, rfl, ?_⟩
            refine OPS.call (d := some 22) rfl rfl rfl (EvC.func (fun_run rfl)) (routeMoved n hd A B C O l ts ns o ca cb cc co w (hn.below (hbel Hf)) hm (ho.below hW) (by omega) hin) ?_
            rintro _ w ⟨rfl, hb'⟩
            refine ⟨_, rfl, ?_⟩
            replace Hf := Hf.toBelow hb'
            replace hW := hW.trans (hb'.mono hW.size)
            clear hb'
            have H := Hf.drop (List.nil_sublist _)
            refine OPS.nil ?_
            refine ⟨(by exact H), ?_⟩
            refine OPH.take 7 rfl rfl rfl rfl (by kernel_rfl) (by kernel_rfl) (by kernel_rfl) rfl (by exact H) (fun w H => Ev.build (bld_49_0_1_2_3 rfl rfl rfl rfl)) ?_
            refine OPH.all [8] (by kernel_rfl) (by simp) rfl ?_
            intro i hi; simp only [List.mem_cons, List.not_mem_nil, or_false] at hi
            rcases hi with rfl
            · refine ⟨_, rfl, ?_⟩
              refine OPS.call (d := some 25) rfl rfl rfl (EvC.func (fun_run rfl)) (betterO n l ts ns hd rt s A' c' B' o cb' w (fun x hx => ⟨by subst hx; exact (OwnS.ones (R := _ :: Lo) hOF (Hf.perm (List.Perm.cons _ List.perm_append_comm))).1, hxl x hx⟩) (hOo.ones Hf).1 (by omega)) ?_
              rintro _ w ⟨rfl, hb'⟩
              refine ⟨_, rfl, ?_⟩
              replace Hf := Hf.toBelow hb'
              clear hb'
              have H := Hf.drop (List.nil_sublist _)
              refine OPS.nil ?_
              refine ⟨(by exact H), ?_⟩
              refine OPH.all [9] (by kernel_rfl) (by simp) rfl ?_
              intro i hi; simp only [List.mem_cons, List.not_mem_nil, or_false] at hi
              rcases hi with rfl
              · refine ⟨_, rfl, ?_⟩
                refine OPS.store (vs := fndV n l ts ns hd rt (bet (mvL ns) (secsD n l ts ns hd rt) s (some o)) (if takesB n l ts ns hd rt s o = true then B' else A') (if takesB n l ts ns hd rt s o = true then cb' else c')) 0 _ rfl rfl rfl (size_run rfl) rfl (cA rfl) (fndV_len n l ts ns hd rt _ _ _) (fndV_one n l ts ns hd rt _ _ _) Hf rfl (by rw [fndV_len]; exact Nat.le_refl _) ?_
                clear H Hf; intro w Hf
                have H := Hf.drop (List.nil_sublist _)
                replace Hf : ∃ Lv', VisR n l ts ns hd rt wB g7 (bet (mvL ns) (secsD n l ts ns hd rt) s (some o)) Lv' ∧ SH w0 S w Lv' := by
                  replace Hf : SH w0 S w (⟨g7, 49, putL (fndV n l ts ns hd rt s A' c') 0 (fndV n l ts ns hd rt (bet (mvL ns) (secsD n l ts ns hd rt) s (some o)) (if takesB n l ts ns hd rt s o = true then B' else A') (if takesB n l ts ns hd rt s o = true then cb' else c'))⟩ :: (Lf ++ Lo)) := Hf
                  rw [fndV_put] at Hf
                  have hgeH : ∀ {L : List Blk}, SH w0 S w L → ∀ g ∈ L.map (·.g), wB.heap.size ≤ g := fun {L} H g hg => by
                    obtain ⟨b, hb, rfl⟩ := List.mem_map.1 hg
                    rcases H.may b hb with h | h
                    · exact Nat.le_trans hB.size h
                    · exact hge _ h
                  rw [takes_bet] at Hf ⊢
                  by_cases htk : takesB n l ts ns hd rt s o = true
                  · rw [if_pos htk, if_pos htk, if_pos htk] at Hf
                    rw [if_pos htk]
                    have H2 := Hf.drop (List.Sublist.cons_cons _ (List.sublist_append_right Lf Lo))
                    exact ⟨_, ⟨hgeH H2, fun x hx => by cases hx; omega, B', cb', Lo, rfl, hOo⟩, H2⟩
                  · rw [if_neg htk, if_neg htk, if_neg htk] at Hf
                    rw [if_neg htk]
                    have H2 := Hf.drop (List.Sublist.cons_cons _ (List.sublist_append_left Lf Lo))
                    exact ⟨_, ⟨hgeH H2, hxl, A', c', Lf, rfl, hOF⟩, H2⟩
                refine OPS.nil ?_
                refine ⟨(by exact H), ?_⟩
                refine OPH.done (by kernel_rfl) ?_
                exact ⟨(by repeat (first | exact Agree.refl _ _ | exact Agree.mix _ _ _ | refine Agree.upd rfl ?_ | refine Agree.mix2 rfl ?_)), Hf⟩
        · refine ⟨_, rfl, ?_⟩
          refine OPS.call (d := some 22) rfl rfl rfl (EvC.func (fun_run rfl)) (routeMoved n hd A B C O l ts ns o ca cb cc co w (hn.below (hbel Hf)) hm (ho.below hW) (by omega) hin) ?_
          rintro _ w ⟨rfl, hb'⟩
          refine ⟨_, rfl, ?_⟩
          replace Hf := Hf.toBelow hb'
          replace hW := hW.trans (hb'.mono hW.size)
          clear hb'
          have H := Hf.drop (List.nil_sublist _)
          refine OPS.nil ?_
          refine ⟨(by exact H), ?_⟩
          refine OPH.take 7 rfl rfl rfl rfl (by kernel_rfl) (by kernel_rfl) (by kernel_rfl) rfl (by exact H) (fun w H => Ev.build (bld_49_0_1_2_3 rfl rfl rfl rfl)) ?_
          refine OPH.all [0] (by kernel_rfl) (by simp) rfl ?_
          intro i hi; simp only [List.mem_cons, List.not_mem_nil, or_false] at hi
          rcases hi with rfl
          · refine ⟨_, rfl, ?_⟩
            try replace Hf := Hf.toBelow hbw2
            refine OPS.val rfl rfl rfl (Ev.loadO 0 Hf rfl (agg_run rfl) (size_run rfl) (fndV_len n l ts ns hd rt s A' c') rfl) ?_
            refine OPS.nil ?_
            refine ⟨(by exact H), ?_⟩
            refine OPH.all [8] (by kernel_rfl) (by simp) rfl ?_
            intro i hi; simp only [List.mem_cons, List.not_mem_nil, or_false] at hi
            rcases hi with rfl
            · refine ⟨_, rfl, ?_⟩
              refine OPS.call (d := some 25) rfl rfl rfl (EvC.func (fun_run rfl)) (betterO n l ts ns hd rt s A' c' B' o cb' w (fun x hx => ⟨by subst hx; exact (OwnS.ones (R := _ :: Lo) hOF (Hf.perm (List.Perm.cons _ List.perm_append_comm))).1, hxl x hx⟩) (hOo.ones Hf).1 (by omega)) ?_
              rintro _ w ⟨rfl, hb'⟩
              refine ⟨_, rfl, ?_⟩
              replace Hf := Hf.toBelow hb'
              clear hb'
              have H := Hf.drop (List.nil_sublist _)
              refine OPS.nil ?_
              refine ⟨(by exact H), ?_⟩
              refine OPH.all [9] (by kernel_rfl) (by simp) rfl ?_
              intro i hi; simp only [List.mem_cons, List.not_mem_nil, or_false] at hi
              rcases hi with rfl
              · refine ⟨_, rfl, ?_⟩
                refine OPS.store (vs := fndV n l ts ns hd rt (bet (mvL ns) (secsD n l ts ns hd rt) s (some o)) (if takesB n l ts ns hd rt s o = true then B' else A') (if takesB n l ts ns hd rt s o = true then cb' else c')) 0 _ rfl rfl rfl (size_run rfl) rfl (cA rfl) (fndV_len n l ts ns hd rt _ _ _) (fndV_one n l ts ns hd rt _ _ _) Hf rfl (by rw [fndV_len]; exact Nat.le_refl _) ?_
                clear H Hf; intro w Hf
                have H := Hf.drop (List.nil_sublist _)
                replace Hf : ∃ Lv', VisR n l ts ns hd rt wB g7 (bet (mvL ns) (secsD n l ts ns hd rt) s (some o)) Lv' ∧ SH w0 S w Lv' := by
                  replace Hf : SH w0 S w (⟨g7, 49, putL (fndV n l ts ns hd rt s A' c') 0 (fndV n l ts ns hd rt (bet (mvL ns) (secsD n l ts ns hd rt) s (some o)) (if takesB n l ts ns hd rt s o = true then B' else A') (if takesB n l ts ns hd rt s o = true then cb' else c'))⟩ :: (Lf ++ Lo)) := Hf
                  rw [fndV_put] at Hf
                  have hgeH : ∀ {L : List Blk}, SH w0 S w L → ∀ g ∈ L.map (·.g), wB.heap.size ≤ g := fun {L} H g hg => by
                    obtain ⟨b, hb, rfl⟩ := List.mem_map.1 hg
                    rcases H.may b hb with h | h
                    · exact Nat.le_trans hB.size h
                    · exact hge _ h
                  rw [takes_bet] at Hf ⊢
                  by_cases htk : takesB n l ts ns hd rt s o = true
                  · rw [if_pos htk, if_pos htk, if_pos htk] at Hf
                    rw [if_pos htk]
                    have H2 := Hf.drop (List.Sublist.cons_cons _ (List.sublist_append_right Lf Lo))
                    exact ⟨_, ⟨hgeH H2, fun x hx => by cases hx; omega, B', cb', Lo, rfl, hOo⟩, H2⟩
                  · rw [if_neg htk, if_neg htk, if_neg htk] at Hf
                    rw [if_neg htk]
                    have H2 := Hf.drop (List.Sublist.cons_cons _ (List.sublist_append_left Lf Lo))
                    exact ⟨_, ⟨hgeH H2, hxl, A', c', Lf, rfl, hOF⟩, H2⟩
                refine OPS.nil ?_
                refine ⟨(by exact H), ?_⟩
                refine OPH.done (by kernel_rfl) ?_
                exact ⟨(by repeat (first | exact Agree.refl _ _ | exact Agree.mix _ _ _ | refine Agree.upd rfl ?_ | refine Agree.mix2 rfl ?_)), Hf⟩
    clear H
    rintro u w ⟨Lv', hR, H⟩
    refine ⟨_, rfl, ?_⟩
    exact ⟨_, rfl, hR, H⟩
  have hfe : ¬ walkE n l ts ns hd rt o = 0 := by simpa using hc1
  have hvis : visB (mvL ns) (secsD n l ts ns hd rt) (feasB n l ts ns hd rt) s o = s := if_neg (by simpa [feasB] using hfe)
  rw [hvis]
  have hR : VisR n l ts ns hd rt wB g7 s (⟨g7, 49, fndV n l ts ns hd rt s A' c'⟩ :: Lf) := ⟨by rw [← hS]; exact hge, hxl, A', c', Lf, rfl, hOF⟩
  refine WP.skip ?_
  refine ⟨_, rfl, ?_⟩
  exact ⟨_, rfl, hR, H⟩
end Go.Proofs.Ytfddebpeiilohaa

/-
  Walks: best; Best.
-/
set_option linter.all false
namespace Go.Proofs.Ytfddebpeiilohaa
open Go Go.W Go.RowKit

theorem bestFun : funT 41 = true := rfl
set_option maxHeartbeats 4000000 in
theorem routeBest (n hd rt : Int) (A B C R : Option Addr) (l : List Edg) (ts : List Truck) (ns : List Need) (rn : List Int) (ca cb cc cr : Nat) (w0 : World) (hz : EdgsAt w0 A l) (ht : RowsAt 4 truckCells w0 B ts) (hn : RowsAt 2 needCells w0 C ns) (hcc : ns.length ≤ cc)
    (hm : ∀ x ∈ ns, -32 ≤ x.move ∧ x.move ≤ 32) (hns : ns.length ≤ 16) (hr : IntsAt w0 R rn) (hrl : rn.length ≤ 16) (hnd : rn.Nodup) (hin : ∀ i ∈ rn, 0 ≤ i ∧ i < ns.length) :
    Calls Try.prog 24 #[.agg #[I n, .slice A l.length ca, .slice B ts.length cb, .slice C ns.length cc, I hd], I rt, .slice R rn.length cr] w0 fun e w' => ∃ s A' c' Lf, e = .returned (.agg (fndV n l ts ns hd rt s A' c').toArray) ∧ IsBest (mvL ns) (secsD n l ts ns hd rt) (fun o => o.Perm rn ∧ walkE n l ts ns hd rt o = 0) s ∧ (∀ x, s = some x → x.length ≤ 1000) ∧ OwnF s A' c' Lf ∧ SH w0 [] w' Lf := by
  have H := SH.refl w0
  refine Calls.ofWPc Try.func24 rfl Try.results24 Try.ntmps24 rfl ?_
  refine WP.seq ?_
  refine WP.region ?_
  refine OPS.box rfl rfl rfl rfl (cA rfl) H ?_
  clear H; intro g3 w H
  refine OPS.box rfl rfl rfl rfl (cI rfl) H ?_
  clear H; intro g4 w H
  refine OPS.alloc rfl rfl rfl rfl (zero_run rfl) rfl H ?_
  clear H; intro g6 w H
  refine OPS.nil ?_
  refine WP.seq ?_
  have H1 := H
  generalize w = wB at *
  replace H := SH.refl wB
  refine WP.region ?_
  refine OPS.alloc rfl rfl rfl rfl (zero_run rfl) rfl H ?_
  clear H; intro g7 w H
  refine OPS.nil ?_
  refine WP.seq ?_
  refine WP.region ?_
  refine OPS.val rfl rfl rfl (Ev.mvS rfl) ?_
  refine OPS.val rfl rfl rfl (Ev.makeFunc) ?_
  refine OPS.call (d := some 10) rfl rfl rfl (EvC.func (fun_run rfl)) (routeOrders (σ := Option (List Int)) (VisR n l ts ns hd rt wB g7) (visB (mvL ns) (secsD n l ts ns hd rt) (feasB n l ts ns hd rt)) 41 [Value.pointer (some ⟨g3, 0, none⟩), Value.pointer (some ⟨g4, 0, none⟩), Value.pointer (some ⟨g7, 0, none⟩)] wB rfl rn (fun s Lv w O o co h1 h2 h3 h4 h5 h6 h7 => routeBestV n hd rt A B C l ts ns ca cb cc g3 g4 g7 wB (hz.sh H1) (ht.sh H1) (hn.sh H1) hcc (cellsAt_own H1 2 rfl _ 0 (fun j hj => by rw [Nat.zero_add]; exact List.getElem?_eq_getElem hj)) (H1.ldL 1 rfl 0 rfl) hm s Lv w O o co h1 h2 h3 h4 h5 h6 (by rw [h7.length_eq]; exact hrl)) R cr w ((hr.sh H1).sh H) hrl hnd (fun x hx => by have := hin x hx; omega) none [⟨g7, 49, fndV n l ts ns hd rt none none 0⟩] ⟨H.fresh, (fun x hx => absurd hx (by simp)), none, 0, [], rfl, rfl⟩ (H.restart (List.Sublist.refl _)) H.below H.fresh) ?_
  rintro _ w ⟨V, Lv', rfl, hV, hR, Hc⟩
  refine ⟨_, rfl, ?_⟩
  have H2 := SH.call (L1 := [_, _, _]) (Lv := []) H1 H
  replace H := SH.call (L1 := [_, _, _]) (Lv := [_]) H2 Hc
  clear Hc H1 H2
  obtain ⟨_, hxl, A', c', Lf, rfl, hOF⟩ := hR
  have hbest := (IsBest.fold (m := mvL ns) (d := secsD n l ts ns hd rt) (F := feasB n l ts ns hd rt) (V := V) IsBest.zero).congr (C' := fun o => o.Perm rn ∧ walkE n l ts ns hd rt o = 0) (fun x => by simp [hV, feasB])
  generalize V.foldl (visB (mvL ns) (secsD n l ts ns hd rt) (feasB n l ts ns hd rt)) none = s at *
  have hlen := fndV_len n l ts ns hd rt s A' c'
  simp only [List.cons_append, List.nil_append] at H
  refine OPS.nil ?_
  refine WP.seq ?_
  refine WP.region ?_
  refine OPS.val rfl rfl rfl (Ev.loadO 3 H rfl (agg_run rfl) (size_run rfl) hlen rfl) ?_
  refine OPS.store (vs := fndV n l ts ns hd rt s A' c') 0 _ rfl rfl rfl (size_run rfl) rfl (cA rfl) hlen (fndV_one n l ts ns hd rt s A' c') H rfl (by simp) ?_
  clear H; intro w H
  replace H : SH w0 [] w (⟨g6, 49, putL (fndV n l ts ns hd rt none none 0) 0 (fndV n l ts ns hd rt s A' c')⟩ :: _) := H
  rw [fndV_put] at H
  refine OPS.nil ?_
  refine WP.ret ⟨[_], ⟨(by exact resCellA 0 H rfl (agg_run rfl) (size_run rfl) (by assumption) rfl), trivial⟩, ?_⟩
  exact ⟨s, A', c', Lf, rfl, hbest, hxl, hOF, H.drop ((((List.Sublist.refl _).cons _).cons _).cons _ |>.cons _)⟩
end Go.Proofs.Ytfddebpeiilohaa

/-
  Walks: Best, Moved.
-/
set_option linter.all false
namespace Go.Proofs.Ytfddebpeiilohaa
open Go Go.W Go.RowKit

section
variable (n : Int) (l : List Edg) (ts : List Truck) (ns : List Need) (hd rt : Int) (rn : List Int)
def CandP (o : List Int) : Prop := o.Perm rn ∧ walkE n l ts ns hd rt o = 0
def SubP (o : List Int) : Prop := (o.Nodup ∧ ∀ i ∈ o, i ∈ rn) ∧ walkE n l ts ns hd rt o = 0
inductive BestAns : Int → Int → List Int → Prop
  | no (h : askErr n l ts ns hd rt rn ≠ 0) : BestAns (askErr n l ts ns hd rt rn) 0 []
  | empty (h : askErr n l ts ns hd rt rn = 0) (hb : IsBest (mvL ns) (secsD n l ts ns hd rt) (CandP n l ts ns hd rt rn) none) : BestAns 10 0 []
  | ok (h : askErr n l ts ns hd rt rn = 0) (x : List Int) (hb : IsBest (mvL ns) (secsD n l ts ns hd rt) (CandP n l ts ns hd rt rn) (some x)) : BestAns 0 rt x
inductive MostAns : Int → Int → List Int → Prop
  | no (h : askErr n l ts ns hd rt rn ≠ 0) : MostAns (askErr n l ts ns hd rt rn) 0 []
  | ok (h : askErr n l ts ns hd rt rn = 0) (s : Option (List Int)) (hb : IsBest (mvL ns) (secsD n l ts ns hd rt) (SubP n l ts ns hd rt rn) s) : MostAns 0 rt (s.getD [])
end
theorem ask_ok {n : Int} {l : List Edg} {ts : List Truck} {ns : List Need} {hd rt : Int} {rn : List Int} (h : askErr n l ts ns hd rt rn = 0) :
    nightErr n l ts ns hd = 0 ∧ routeErr ts ns rt rn = 0 ∧ rn.length ≤ 6 := by
  unfold askErr at h
  split at h
  · rename_i h1; exact absurd h h1
  · rename_i h1
    split at h
    · rename_i h2; exact absurd h h2
    · rename_i h2
      split at h
      · cases h
      · exact ⟨Classical.not_not.1 h1, Classical.not_not.1 h2, by omega⟩
set_option maxHeartbeats 4000000 in
theorem routeBestX (n hd rt : Int) (A B C R : Option Addr) (l : List Edg) (ts : List Truck) (ns : List Need) (rn : List Int) (ca cb cc cr : Nat) (w0 : World) (hz : EdgsAt w0 A l) (ht : RowsAt 4 truckCells w0 B ts) (hn : RowsAt 2 needCells w0 C ns) (hcc : ns.length ≤ cc) (hr : IntsAt w0 R rn) (hrl : rn.length ≤ 1000) :
    Calls Try.prog 11 #[.agg #[I n, .slice A l.length ca, .slice B ts.length cb, .slice C ns.length cc, I hd], I rt, .slice R rn.length cr] w0 fun e w' => ∃ (er r0 : Int) (x : List Int) (X : Option Addr) (c : Nat) (Lf : List Blk), e = .returned (.tuple #[.agg #[I r0, .slice X x.length c], I er]) ∧ BestAns n l ts ns hd rt rn er r0 x ∧ OwnS X c x.length (x.map I) 3 1 Lf ∧ SH w0 [] w' Lf := by
  have H := SH.refl w0
  refine Calls.ofWPc Try.func11 rfl Try.results11 Try.ntmps11 rfl ?_
  refine WP.seq ?_
  refine WP.region ?_
  refine OPS.box rfl rfl rfl rfl (cA rfl) H ?_
  clear H; intro g3 w H
  refine OPS.alloc rfl rfl rfl rfl (zero_run rfl) rfl H ?_
  clear H; intro g6 w H
  refine OPS.val rfl rfl rfl (Ev.asI rfl) ?_
  refine OPS.nil ?_
  refine WP.seq ?_
  refine WP.seq ?_
  refine WP.region ?_
  refine OPS.val rfl rfl rfl ((by exact Ev.loadO 1 H rfl (agg_run rfl) (size_run rfl) (by rfl) rfl)) ?_
  refine OPS.val rfl rfl rfl (Ev.mvI rfl) ?_
  refine OPS.val rfl rfl rfl (Ev.mvS rfl) ?_
  refine OPS.call (d := some 13) rfl rfl rfl (EvC.func (fun_run rfl)) (routeCheck n hd rt A B C R l ts ns rn ca cb cc cr w (hz.sh H) (ht.sh H) (hn.sh H) hcc (hr.sh H) hrl) ?_
  rintro _ w ⟨rfl, hb⟩
  refine ⟨_, rfl, ?_⟩
  replace H := H.toBelow hb; clear hb
  refine OPS.val rfl rfl rfl (Ev.asI rfl) ?_
  refine OPS.nil ?_
  refine WP.seq ?_
  refine WP.region ?_
  refine OPS.val rfl rfl rfl (Ev.mvI rfl) ?_
  refine OPS.val rfl rfl rfl (Ev.neq rfl rfl) ?_
  refine OPS.nil ?_
  refine WP.cond rfl (fun hc2 => ?_) (fun hc2 => ?_)
  · refine WP.seq ?_
    refine WP.region ?_
    refine OPS.val rfl rfl rfl (Ev.build (bld_34_ (e := fun _ => .int .i64 0))) ?_
    refine OPS.val rfl rfl rfl (Ev.mvI rfl) ?_
    refine OPS.store 0 _ rfl rfl rfl (size_run rfl) rfl (cA rfl) rfl rfl H rfl (by simp) ?_
    clear H; intro w H; try simp only [List.set_cons_zero, List.set_cons_succ, putL, Nat.zero_add] at H
    refine OPS.val rfl rfl rfl (Ev.asI rfl) ?_
    refine OPS.nil ?_
    refine WP.ret ⟨[_, _], ⟨(by exact resCellA 0 H rfl (agg_run rfl) (size_run rfl) (by rfl) rfl), rfl, trivial⟩, ?_⟩
    have h : askErr n l ts ns hd rt rn ≠ 0 := by simpa using hc2
    exact ⟨_, _, [], none, 0, [], rfl, .no h, OwnS.nil, H.drop (List.nil_sublist _)⟩
  have h0 : askErr n l ts ns hd rt rn = 0 := by simpa using hc2
  obtain ⟨hN0, hR0, hl6⟩ := ask_ok h0
  obtain ⟨m, rfl, hN⟩ := nightOk_of hN0
  obtain ⟨_, hin, hnd, _⟩ := routeOk_of hR0
  have hm : ∀ x ∈ ns, -32 ≤ x.move ∧ x.move ≤ 32 := fun x hx => (hN.nd x hx).2.2
  refine WP.skip ?_
  refine WP.seq ?_
  refine WP.region ?_
  refine OPS.val rfl rfl rfl ((by exact Ev.loadO 1 H rfl (agg_run rfl) (size_run rfl) (by rfl) rfl)) ?_
  refine OPS.val rfl rfl rfl (Ev.mvI rfl) ?_
  refine OPS.val rfl rfl rfl (Ev.mvS rfl) ?_
  refine OPS.call (d := some 21) rfl rfl rfl (EvC.func (fun_run rfl)) (routeBest m hd rt A B C R l ts ns rn ca cb cc cr w (hz.sh H) (ht.sh H) (hn.sh H) hcc hm hN.nl (hr.sh H) (by omega) hnd hin) ?_
  rintro _ w ⟨s, A', c', Lf, rfl, hbest, hxl, hOF, Hc⟩
  refine ⟨_, rfl, ?_⟩
  replace H := SH.call (L1 := [_, _]) (Lv := []) H Hc
  clear Hc
  have hlen := fndV_len m l ts ns hd rt s A' c'
  have hok : (fndV m l ts ns hd rt s A' c')[3]? = some (.bool s.isSome) := by cases s <;> rfl
  refine OPS.alloc rfl rfl rfl rfl (zero_run rfl) rfl H ?_
  clear H; intro g9 w H
  refine OPS.store (vs := fndV m l ts ns hd rt s A' c') 0 _ rfl rfl rfl (size_run rfl) rfl (cA rfl) hlen (fndV_one m l ts ns hd rt s A' c') H rfl (by simp) ?_
  clear H; intro w H
  replace H : SH w0 [] w (⟨g9, 49, putL (fndV m l ts ns hd rt none none 0) 0 (fndV m l ts ns hd rt s A' c')⟩ :: _) := H
  rw [fndV_put] at H
  simp only [List.cons_append, List.nil_append] at H
  refine OPS.nil ?_
  refine WP.seq ?_
  refine WP.seq ?_
  refine WP.region ?_
  refine OPS.val rfl rfl rfl (Ev.fieldAddr (fld_run rfl) rfl) ?_
  refine OPS.val rfl rfl rfl (Ev.load1 (agg_run rfl) rfl (H.ldL 0 rfl 3 hok)) ?_
  refine OPS.val rfl rfl rfl (Ev.not rfl) ?_
  refine OPS.nil ?_
  refine WP.cond rfl (fun hc5 => ?_) (fun hc5 => ?_)
  · refine WP.seq ?_
    refine WP.region ?_
    refine OPS.val rfl rfl rfl (Ev.build (bld_34_ (e := fun _ => .int .i64 0))) ?_
    refine OPS.store 1 _ rfl rfl rfl (size_run rfl) rfl (cA rfl) rfl rfl H rfl (by simp) ?_
    clear H; intro w H; try simp only [List.set_cons_zero, List.set_cons_succ, putL, Nat.zero_add] at H
    refine OPS.val rfl rfl rfl (Ev.asI rfl) ?_
    refine OPS.nil ?_
    refine WP.ret ⟨[_, _], ⟨(by exact resCellA 1 H rfl (agg_run rfl) (size_run rfl) (by rfl) rfl), rfl, trivial⟩, ?_⟩
    have hs : s = none := by simpa using hc5
    subst hs
    exact ⟨_, _, [], none, 0, [], rfl, .empty h0 hbest, OwnS.nil, H.drop (List.nil_sublist _)⟩
  obtain ⟨x, rfl⟩ : ∃ x, s = some x := Option.isSome_iff_exists.1 (by simpa using hc5)
  refine WP.skip ?_
  refine WP.seq ?_
  refine WP.region ?_
  refine OPS.val rfl rfl rfl (Ev.mvI rfl) ?_
  refine OPS.val rfl rfl rfl (Ev.fieldAddr (fld_run rfl) rfl) ?_
  refine OPS.val rfl rfl rfl (Ev.load1 (agg_run rfl) rfl (by exact H.ldL 0 rfl _ rfl)) ?_
  refine OPS.val rfl rfl rfl (Ev.build (bld_34_0_1 rfl rfl)) ?_
  refine OPS.store 1 _ rfl rfl rfl (size_run rfl) rfl (cA rfl) rfl rfl H rfl (by simp) ?_
  clear H; intro w H; try simp only [List.set_cons_zero, List.set_cons_succ, putL, Nat.zero_add] at H
  refine OPS.val rfl rfl rfl (Ev.asI rfl) ?_
  refine OPS.nil ?_
  refine WP.ret ⟨[_, _], ⟨(by exact resCellA 1 H rfl (agg_run rfl) (size_run rfl) (by rfl) rfl), rfl, trivial⟩, ?_⟩
  exact ⟨_, _, x, A', c', Lf, rfl, .ok h0 x hbest, hOF, H.drop ((((List.Sublist.refl _).cons _).cons _).cons _)⟩
end Go.Proofs.Ytfddebpeiilohaa

/-
  Walks: Most, Moved.
-/
set_option linter.all false
namespace Go.Proofs.Ytfddebpeiilohaa
open Go Go.W Go.RowKit

section
variable {P : Program} {e : Env} {w : World} {ty t : TypeId} {x y : Operand}
theorem Ev.shl1 {t' : TypeId} {j : Nat} (hx : ev e x = .int .i64 1) (hy : ev e y = .int .i64 j) (h : j ≤ 62) : Ev P e w ty (.binOp .shl t x y t') (.int .i64 ((2 ^ j : Nat) : Int)) :=
  Ev.bin hx hy fun w => by
    have h1 : (2 : Nat) ^ j ≤ 4611686018427387904 := Nat.le_trans (Nat.pow_le_pow_right (by decide) h) (by decide)
    have h2 : ((2 ^ j : Nat) : Int) ≤ 4611686018427387904 := Int.ofNat_le.2 h1
    have h3 : (0 : Int) ≤ ((2 ^ j : Nat) : Int) := Int.natCast_nonneg _
    have h4 : (1 : Int) * 2 ^ ((j : Int)).toNat = ((2 ^ j : Nat) : Int) := by rw [Int.toNat_natCast, Int.one_mul, Int.natCast_pow]; rfl
    rw [binOp_shl, shift_shl _ _ _ _ (by omega) (show ((j : Nat) : Int) ≤ ((64 : Nat) : Int) by omega), h4, wrap_fits (by unfold fits; omega)]
    rfl
theorem Ev.shrN {t' : TypeId} {a j : Nat} (hx : ev e x = .int .i64 a) (hy : ev e y = .int .i64 j) (h : j ≤ 62) : Ev P e w ty (.binOp .shr t x y t') (.int .i64 ((a / 2 ^ j : Nat) : Int)) :=
  Ev.bin hx hy fun w => by
    rw [binOp_shr, shift_shr _ _ _ _ (by omega) (show ((j : Nat) : Int) ≤ ((64 : Nat) : Int) by omega)]
    simp
theorem i64_and1 (n : Int) : bits .and .i64 n 1 = n % 2 := by
  have h127 : (BitVec.ofInt 64 1).toNat = 2 ^ 1 - 1 := by decide
  have key : (BitVec.ofInt 64 n &&& BitVec.ofInt 64 1).toNat = (n % ((2 ^ 64 : Nat) : Int)).toNat % 2 ^ 1 := by
    rw [BitVec.toNat_and, BitVec.toNat_ofInt, h127, Nat.and_two_pow_sub_one_eq_mod]
  show IntKind.i64.wrap ((BitVec.ofInt 64 n &&& BitVec.ofInt 64 1).toNat : Nat) = n % 2
  rw [key, IntKind.wrap_i64]
  omega
theorem Ev.and1 {t' : TypeId} {a : Nat} (hx : ev e x = .int .i64 a) (hy : ev e y = .int .i64 1) : Ev P e w ty (.binOp .and t x y t') (.int .i64 ((a % 2 : Nat) : Int)) :=
  Ev.bin hx hy fun w => by
    rw [binOp_and, intBits_and, i64_and1]
    simp
end
noncomputable def movedE (n : Int) (l : List Edg) (ts : List Truck) (ns : List Need) (hd : Int) (rn : List Int) : Int :=
  if nightErr n l ts ns hd ≠ 0 then nightErr n l ts ns hd else if rn.any (outB ns.length) = true then 7 else 0
noncomputable def movedV (n : Int) (l : List Edg) (ts : List Truck) (ns : List Need) (hd : Int) (rn : List Int) : Int := if movedE n l ts ns hd rn = 0 then mvL ns rn else 0
theorem outB_or (k : Nat) (i : Int) : outB k i = (decide (i < 0) || decide ((k : Int) ≤ i)) := by
  unfold outB inB
  rw [Bool.eq_iff_iff]; simp; omega
set_option maxHeartbeats 4000000 in
theorem routeMovedX (n hd : Int) (A B C R : Option Addr) (l : List Edg) (ts : List Truck) (ns : List Need) (rn : List Int) (ca cb cc cr : Nat) (w0 : World) (hz : EdgsAt w0 A l) (ht : RowsAt 4 truckCells w0 B ts) (hn : RowsAt 2 needCells w0 C ns) (hcc : ns.length ≤ cc) (hr : IntsAt w0 R rn) (hrl : rn.length ≤ 1000) :
    Calls Try.prog 16 #[.agg #[I n, .slice A l.length ca, .slice B ts.length cb, .slice C ns.length cc, I hd], .slice R rn.length cr] w0 fun e w' => e = .returned (.tuple #[I (movedV n l ts ns hd rn), I (movedE n l ts ns hd rn)]) ∧ Below w0.heap.size w0 w' := by
  have H := SH.refl w0
  refine Calls.ofWP Try.func16 rfl Try.results16 Try.ntmps16 rfl ?_
  refine WP.seq ?_
  refine WP.region ?_
  refine OPS.box rfl rfl rfl rfl (cA rfl) H ?_
  clear H; intro g2 w H
  refine OPS.val rfl rfl rfl (Ev.asI rfl) ?_
  refine OPS.val rfl rfl rfl (Ev.asI rfl) ?_
  refine OPS.nil ?_
  refine WP.seq ?_
  refine WP.seq ?_
  refine WP.region ?_
  refine OPS.val rfl rfl rfl ((by exact Ev.loadO 0 H rfl (agg_run rfl) (size_run rfl) (by rfl) rfl)) ?_
  refine OPS.call (d := some 10) rfl rfl rfl (EvC.func (fun_run rfl)) (truckCheck n hd A B C l ts ns ca cb cc w (hz.sh H) (ht.sh H) (hn.sh H) hcc) ?_
  rintro _ w ⟨rfl, hb⟩
  refine ⟨_, rfl, ?_⟩
  replace H := H.toBelow hb; clear hb
  refine OPS.val rfl rfl rfl (Ev.asI rfl) ?_
  refine OPS.nil ?_
  refine WP.seq ?_
  refine WP.region ?_
  refine OPS.val rfl rfl rfl (Ev.mvI rfl) ?_
  refine OPS.val rfl rfl rfl (Ev.neq rfl rfl) ?_
  refine OPS.nil ?_
  refine WP.cond rfl (fun hc2 => ?_) (fun hc2 => ?_)
  · refine WP.seq ?_
    refine WP.region ?_
    refine OPS.val rfl rfl rfl (Ev.mvI rfl) ?_
    refine OPS.val rfl rfl rfl (Ev.asI rfl) ?_
    refine OPS.val rfl rfl rfl (Ev.asI rfl) ?_
    refine OPS.nil ?_
    refine WP.ret ⟨_, rfl, ?_⟩
    have h : nightErr n l ts ns hd ≠ 0 := by simpa using hc2
    have he : movedE n l ts ns hd rn = nightErr n l ts ns hd := if_pos h
    exact ⟨by rw [movedV, he, if_neg h]; rfl, H.below⟩
  have h0 : nightErr n l ts ns hd = 0 := by simpa using hc2
  obtain ⟨m, rfl, hN⟩ := nightOk_of h0
  have hm : ∀ x ∈ ns, -32 ≤ x.move ∧ x.move ≤ 32 := fun x hx => (hN.nd x hx).2.2
  have hnl := hN.nl
  have he0 : movedE m l ts ns hd rn = if rn.any (outB ns.length) = true then 7 else 0 := if_neg (by simp [h0])
  refine WP.skip ?_
  refine WP.seq ?_
  refine WP.seq ?_
  refine WP.region ?_
  refine OPS.val rfl rfl rfl (Ev.mvS rfl) ?_
  refine OPS.val rfl rfl rfl (Ev.len (el_run rfl) rfl) ?_
  refine OPS.val rfl rfl rfl (Ev.mvI rfl) ?_
  refine OPS.nil ?_
  refine WP.block ?_
  refine WP.loop [4, 5, 8, 16, 17, 18, 19, 20, 21, 22, 23, 24, 25, 26, 27, 28, 29] (fun k e w' => ∃ (j : Nat), j + k = rn.length ∧ e 16 = I j ∧ (∀ i ∈ rn.take j, outB ns.length i = false) ∧ SH w0 [] w' [⟨g2, 28, [I m, .slice A l.length ca, .slice B ts.length cb, .slice C ns.length cc, I hd]⟩]) (rn.length) (⟨0, by omega, rfl, by simp, H⟩) ?_
  clear H
  rintro k u w ⟨j, hk, h16, hall, H⟩
  refine WP.know (t := 16) h16 ?_
  refine WP.seq ?_
  refine WP.region ?_
  refine OPS.val rfl rfl rfl (Ev.lss rfl rfl) ?_
  refine OPS.nil ?_
  refine WP.seq ?_
  refine WP.cond rfl (fun hc5 => ?_) (fun hc5 => ?_)
  · have hlt : j < rn.length := by simpa using hc5
    obtain ⟨br, orr, rfl, hx⟩ := hr j hlt
    have ho := outB_or ns.length rn[j]
    have htk := List.take_succ_eq_append_getElem hlt
    refine WP.skip ?_
    refine WP.seq ?_
    refine WP.block ?_
    refine WP.seq ?_
    refine WP.region ?_
    refine OPS.val rfl rfl rfl ((by exact Ev.indexAddr1 (el_run rfl) (size_run rfl) rfl rfl rfl (by omega))) ?_
    refine OPS.val rfl rfl rfl (Ev.load1 (agg_run rfl) rfl (by exact H.ld0 (by assumption))) ?_
    refine OPS.val rfl rfl rfl (Ev.asI rfl) ?_
    refine OPS.nil ?_
    refine WP.seq ?_
    refine WP.region ?_
    refine OPS.val rfl rfl rfl (Ev.mvI rfl) ?_
    refine OPS.val rfl rfl rfl (Ev.lss rfl rfl) ?_
    refine OPS.val rfl rfl rfl (Ev.mvB rfl) ?_
    refine OPS.gval rfl rfl rfl rfl rfl (fun hg => Ev.mvI (by rfl)) ?_
    refine OPS.gval rfl rfl rfl rfl rfl (fun hg => Ev.fieldAddr (fld_run rfl) (by rfl)) ?_
    refine OPS.gval rfl rfl rfl rfl rfl (fun hg => Ev.load1 (agg_run rfl) (by exact gvE hg rfl) (by exact H.ldL 0 rfl _ rfl)) ?_
    refine OPS.gval rfl rfl rfl rfl rfl (fun hg => Ev.len (el_run rfl) (by exact gvE hg rfl)) ?_
    refine OPS.gval rfl rfl rfl rfl rfl (fun hg => Ev.geq (by exact gvE hg rfl) (by exact gvE hg rfl)) ?_
    refine OPS.val rfl rfl rfl ((by exact Ev.pickOr rfl rfl rfl)) ?_
    refine OPS.nil ?_
    refine WP.cond rfl (fun hc7 => ?_) (fun hc7 => ?_)
    · refine WP.seq ?_
      refine WP.region ?_
      refine OPS.val rfl rfl rfl (Ev.asI rfl) ?_
      refine OPS.val rfl rfl rfl (Ev.asI rfl) ?_
      refine OPS.nil ?_
      refine WP.ret ⟨_, rfl, ?_⟩
      have h : outB ns.length rn[j] = true := by rw [ho]; simpa using hc7
      have he : movedE m l ts ns hd rn = 7 := by rw [he0, if_pos (List.any_eq_true.2 ⟨_, List.getElem_mem hlt, h⟩)]
      exact ⟨by rw [movedV, he, if_neg (by decide)]; rfl, H.below⟩
    have h : outB ns.length rn[j] = false := by rw [ho]; simpa using hc7
    refine WP.skip ?_
    refine WP.region ?_
    refine OPS.val rfl rfl rfl (Ev.add rfl rfl (by unfold fits; omega)) ?_
    refine OPS.val rfl rfl rfl (Ev.mvI rfl) ?_
    refine OPS.nil ?_
    exact ⟨(by repeat (first | exact Agree.refl _ _ | exact Agree.mix _ _ _ | refine Agree.upd rfl ?_ | refine Agree.mix2 rfl ?_)), k - 1, by omega, j + 1, by omega, rfl, (fun i hi => by
      rw [htk, List.mem_append, List.mem_singleton] at hi
      rcases hi with hi | rfl
      · exact hall i hi
      · exact h), H⟩
  have hj : j = rn.length := by simp at hc5; omega
  subst hj
  rw [List.take_length] at hall
  have he : movedE m l ts ns hd rn = 0 := by rw [he0, if_neg (by rw [List.any_eq_true]; rintro ⟨i, h1, h2⟩; rw [hall i h1] at h2; cases h2)]
  have hin : ∀ i ∈ rn, 0 ≤ i ∧ i < ns.length := fun i hi => by
    have := hall i hi
    rw [outB_or] at this
    simp at this; omega
  refine WP.exit ?_
  refine XB.hit ?_
  refine WP.seq ?_
  refine WP.region ?_
  refine OPS.val rfl rfl rfl ((by exact Ev.loadO 0 H rfl (agg_run rfl) (size_run rfl) (by rfl) rfl)) ?_
  refine OPS.val rfl rfl rfl (Ev.mvS rfl) ?_
  refine OPS.call (d := some 32) rfl rfl rfl (EvC.func (fun_run rfl)) (routeMoved m hd A B C R l ts ns rn ca cb cc cr w (hn.sh H) hm (hr.sh H) hrl hin) ?_
  rintro _ w ⟨rfl, hb⟩
  refine ⟨_, rfl, ?_⟩
  replace H := H.toBelow hb; clear hb
  refine OPS.val rfl rfl rfl (Ev.asI rfl) ?_
  refine OPS.val rfl rfl rfl (Ev.asI rfl) ?_
  refine OPS.nil ?_
  refine WP.ret ⟨_, rfl, ?_⟩
  exact ⟨by rw [movedV, he, if_pos rfl]; rfl, H.below⟩
end Go.Proofs.Ytfddebpeiilohaa

/-
  Walk: Most.
-/
set_option linter.all false
namespace Go.Proofs.Ytfddebpeiilohaa
open Go Go.W Go.RowKit

theorem pickS_take {rn : List Int} {j i : Nat} (h : j < rn.length) : pickS (rn.take (j + 1)) i = pickS (rn.take j) i ++ if (i / 2 ^ j) % 2 = 1 then [rn[j]] else [] := by
  rw [List.take_succ_eq_append_getElem h, pickS_snoc, List.length_take, Nat.min_eq_left (by omega)]
section
variable (n : Int) (l : List Edg) (ts : List Truck) (ns : List Need) (hd rt : Int) (rn : List Int)
def UpTo (j : Nat) (o : List Int) : Prop := ∃ i, i < j ∧ o.Perm (pickS rn i) ∧ walkE n l ts ns hd rt o = 0
theorem bet_or {m d : List Int → Int} (s s2 : Option (List Int)) : bet m d s s2 = s ∨ bet m d s s2 = s2 := by
  cases s with
  | none => exact .inr rfl
  | some x =>
    cases s2 with
    | none => exact .inl rfl
    | some y =>
      by_cases h : worse m d x y
      · exact .inr (if_pos h)
      · exact .inl (if_neg h)
theorem bet_none {m d : List Int → Int} (s : Option (List Int)) : bet m d s none = s := by cases s <;> rfl
end
set_option maxHeartbeats 4000000 in
theorem routeMostX (n hd rt : Int) (A B C R : Option Addr) (l : List Edg) (ts : List Truck) (ns : List Need) (rn : List Int) (ca cb cc cr : Nat) (w0 : World) (hz : EdgsAt w0 A l) (ht : RowsAt 4 truckCells w0 B ts) (hn : RowsAt 2 needCells w0 C ns) (hcc : ns.length ≤ cc) (hr : IntsAt w0 R rn) (hrl : rn.length ≤ 1000) :
    Calls Try.prog 14 #[.agg #[I n, .slice A l.length ca, .slice B ts.length cb, .slice C ns.length cc, I hd], I rt, .slice R rn.length cr] w0 fun e w' => ∃ (er r0 : Int) (x : List Int) (X : Option Addr) (c : Nat) (Lf : List Blk), e = .returned (.tuple #[.agg #[I r0, .slice X x.length c], I er]) ∧ MostAns n l ts ns hd rt rn er r0 x ∧ OwnS X c x.length (x.map I) 3 1 Lf ∧ SH w0 [] w' Lf := by
  have H := SH.refl w0
  refine Calls.ofWPc Try.func14 rfl Try.results14 Try.ntmps14 rfl ?_
  refine WP.seq ?_
  refine WP.region ?_
  refine OPS.box rfl rfl rfl rfl (cA rfl) H ?_
  clear H; intro g3 w H
  refine OPS.alloc rfl rfl rfl rfl (zero_run rfl) rfl H ?_
  clear H; intro g6 w H
  refine OPS.val rfl rfl rfl (Ev.asI rfl) ?_
  refine OPS.nil ?_
  refine WP.seq ?_
  refine WP.seq ?_
  refine WP.region ?_
  refine OPS.val rfl rfl rfl ((by exact Ev.loadO 1 H rfl (agg_run rfl) (size_run rfl) (by rfl) rfl)) ?_
  refine OPS.val rfl rfl rfl (Ev.mvI rfl) ?_
  refine OPS.val rfl rfl rfl (Ev.mvS rfl) ?_
  refine OPS.call (d := some 18) rfl rfl rfl (EvC.func (fun_run rfl)) (routeCheck n hd rt A B C R l ts ns rn ca cb cc cr w (hz.sh H) (ht.sh H) (hn.sh H) hcc (hr.sh H) hrl) ?_
  rintro _ w ⟨rfl, hb⟩
  refine ⟨_, rfl, ?_⟩
  replace H := H.toBelow hb; clear hb
  refine OPS.val rfl rfl rfl (Ev.asI rfl) ?_
  refine OPS.nil ?_
  refine WP.seq ?_
  refine WP.region ?_
  refine OPS.val rfl rfl rfl (Ev.mvI rfl) ?_
  refine OPS.val rfl rfl rfl (Ev.neq rfl rfl) ?_
  refine OPS.nil ?_
  refine WP.cond rfl (fun hc2 => ?_) (fun hc2 => ?_)
  · refine WP.seq ?_
    refine WP.region ?_
    refine OPS.val rfl rfl rfl (Ev.build (bld_34_ (e := fun _ => .int .i64 0))) ?_
    refine OPS.val rfl rfl rfl (Ev.mvI rfl) ?_
    refine OPS.store 0 _ rfl rfl rfl (size_run rfl) rfl (cA rfl) rfl rfl H rfl (by simp) ?_
    clear H; intro w H; try simp only [List.set_cons_zero, List.set_cons_succ, putL, Nat.zero_add] at H
    refine OPS.val rfl rfl rfl (Ev.asI rfl) ?_
    refine OPS.nil ?_
    refine WP.ret ⟨[_, _], ⟨(by exact resCellA 0 H rfl (agg_run rfl) (size_run rfl) (by rfl) rfl), rfl, trivial⟩, ?_⟩
    have h : askErr n l ts ns hd rt rn ≠ 0 := by simpa using hc2
    exact ⟨_, _, [], none, 0, [], rfl, .no h, OwnS.nil, H.drop (List.nil_sublist _)⟩
  have h0 : askErr n l ts ns hd rt rn = 0 := by simpa using hc2
  obtain ⟨hN0, hR0, hl6⟩ := ask_ok h0
  obtain ⟨m, rfl, hN⟩ := nightOk_of hN0
  obtain ⟨_, hin, hnd, _⟩ := routeOk_of hR0
  have hm : ∀ x ∈ ns, -32 ≤ x.move ∧ x.move ≤ 32 := fun x hx => (hN.nd x hx).2.2
  have h64 : 2 ^ rn.length ≤ 64 := Nat.pow_le_pow_right (n := 2) (by decide) hl6
  refine WP.skip ?_
  refine WP.seq ?_
  refine WP.region ?_
  refine OPS.alloc rfl rfl rfl rfl (zero_run rfl) rfl H ?_
  clear H; intro g9 w H
  refine OPS.nil ?_
  refine WP.seq ?_
  refine WP.seq ?_
  refine WP.region ?_
  refine OPS.val rfl rfl rfl (Ev.mvS rfl) ?_
  refine OPS.val rfl rfl rfl (Ev.len (el_run rfl) rfl) ?_
  refine OPS.val rfl rfl rfl (Ev.shl1 rfl rfl (by omega)) ?_
  refine OPS.val rfl rfl rfl (Ev.mvI rfl) ?_
  refine OPS.nil ?_
  refine WP.block ?_
  refine WP.loop [10, 11, 12, 13, 14, 26, 27, 28, 29, 30, 31, 32, 33, 34, 35, 36, 37, 38, 39, 40, 41, 42, 43, 44, 45, 46, 47, 48, 49, 50, 51, 52, 53, 54, 55] (fun k e w' => ∃ (j : Nat) (s : Option (List Int)) (A' : Option Addr) (c' : Nat) (Lf : List Blk), j + k = 2 ^ rn.length ∧ e 26 = I j ∧ IsBest (mvL ns) (secsD m l ts ns hd rt) (UpTo m l ts ns hd rt rn j) s ∧ (∀ x, s = some x → x.length ≤ 1000) ∧ OwnF s A' c' Lf ∧ SH w0 [] w' ([⟨g9, 49, fndV m l ts ns hd rt s A' c'⟩, ⟨g6, 34, [I 0, .slice none 0 0]⟩, ⟨g3, 28, [I m, .slice A l.length ca, .slice B ts.length cb, .slice C ns.length cc, I hd]⟩] ++ Lf)) ((2 ^ rn.length)) (⟨0, none, none, 0, [], by omega, rfl, (fun o => by rintro ⟨i, hi, _⟩; omega), (fun x hx => absurd hx (by simp)), rfl, H⟩) ?_
  clear H
  rintro k u w ⟨j, s, A', c', Lf, hk, h26, hbest, hxl, hOF, H⟩
  refine WP.know (t := 26) h26 ?_
  refine WP.seq ?_
  refine WP.region ?_
  refine OPS.val rfl rfl rfl (Ev.lss rfl rfl) ?_
  refine OPS.nil ?_
  refine WP.seq ?_
  refine WP.cond rfl (fun hc6 => ?_) (fun hc6 => ?_)
  · have hlt : j < 2 ^ rn.length := by
      have h : (j : Int) < ((2 ^ rn.length : Nat) : Int) := by simpa using hc6
      omega
    refine WP.skip ?_
    refine WP.seq ?_
    refine WP.block ?_
    refine WP.seq ?_
    refine WP.region ?_
    refine OPS.val rfl rfl rfl (Ev.mvI rfl) ?_
    refine OPS.val rfl rfl rfl (Ev.asI rfl) ?_
    refine OPS.nil ?_
    refine WP.seq ?_
    refine WP.region ?_
    refine OPS.val rfl rfl rfl (Ev.asS rfl) ?_
    refine OPS.nil ?_
    refine WP.seq ?_
    refine WP.seq ?_
    refine WP.region ?_
    refine OPS.val rfl rfl rfl (Ev.mvS rfl) ?_
    refine OPS.val rfl rfl rfl (Ev.len (el_run rfl) rfl) ?_
    refine OPS.val rfl rfl rfl (Ev.mvI rfl) ?_
    refine OPS.nil ?_
    refine WP.block ?_
    refine WP.loop [11, 12, 13, 31, 32, 33, 34, 35, 36, 37, 38, 39, 40, 41, 42, 43, 44, 45] (fun k e w' => ∃ (i : Nat) (X : Option Addr) (cx : Nat) (Lx : List Blk), i + k = rn.length ∧ e 31 = I i ∧ e 11 = .slice X (pickS (rn.take i) j).length cx ∧ OwnS X cx (pickS (rn.take i) j).length ((pickS (rn.take i) j).map I) 3 1 Lx ∧ SH w0 [] w' (([⟨g9, 49, fndV m l ts ns hd rt s A' c'⟩, ⟨g6, 34, [I 0, .slice none 0 0]⟩, ⟨g3, 28, [I m, .slice A l.length ca, .slice B ts.length cb, .slice C ns.length cc, I hd]⟩] ++ Lf) ++ Lx)) (rn.length) (⟨0, none, 0, [], by omega, rfl, rfl, OwnS.nil, by rw [List.append_nil]; exact H⟩) ?_
    clear H
    rintro k2 u2 w ⟨i, X, cx, Lx, hk2, h31, h11, hOX, H⟩
    refine WP.know (t := 31) h31 (WP.know (t := 11) h11 ?_)
    refine WP.seq ?_
    refine WP.region ?_
    refine OPS.val rfl rfl rfl (Ev.lss rfl rfl) ?_
    refine OPS.nil ?_
    refine WP.seq ?_
    refine WP.cond rfl (fun hc10 => ?_) (fun hc10 => ?_)
    · have hil : i < rn.length := by simpa using hc10
      obtain ⟨br, orr, rfl, hx⟩ := hr i hil
      have hpk := pickS_take (i := j) hil
      have hpl : (pickS (rn.take i) j).length ≤ i := by
        have := (pickS_sub (rn.take i) j).length_le
        rw [List.length_take] at this; omega
      refine WP.skip ?_
      refine WP.seq ?_
      refine WP.block ?_
      refine WP.seq ?_
      refine WP.region ?_
      refine OPS.val rfl rfl rfl (Ev.mvI rfl) ?_
      refine OPS.val rfl rfl rfl ((by exact Ev.indexAddr1 (el_run rfl) (size_run rfl) rfl rfl rfl (by omega))) ?_
      refine OPS.val rfl rfl rfl (Ev.load1 (agg_run rfl) rfl (by exact H.ld0 (by assumption))) ?_
      refine OPS.val rfl rfl rfl (Ev.asI rfl) ?_
      refine OPS.val rfl rfl rfl (Ev.asI rfl) ?_
      refine OPS.nil ?_
      refine WP.seq ?_
      refine WP.region ?_
      refine OPS.val rfl rfl rfl (Ev.mvI rfl) ?_
      refine OPS.val rfl rfl rfl (Ev.mvI rfl) ?_
      refine OPS.val rfl rfl rfl (Ev.shrN rfl rfl (by omega)) ?_
      refine OPS.val rfl rfl rfl (Ev.and1 rfl rfl) ?_
      refine OPS.val rfl rfl rfl (Ev.eql rfl rfl) ?_
      refine OPS.nil ?_
      refine WP.cond rfl (fun hc12 => ?_) (fun hc12 => ?_)
      · have hbit : (j / 2 ^ i) % 2 = 1 := by
          have h : (((j / 2 ^ i) % 2 : Nat) : Int) = 1 := by simpa using hc12
          omega
        rw [if_pos hbit] at hpk
        refine WP.region ?_
        refine OPS.val rfl rfl rfl (Ev.mvS rfl) ?_
        refine OPS.val rfl rfl rfl (Ev.mvI rfl) ?_
        refine OPS.buildSlice rfl rfl rfl rfl (bsl_29_1_0 rfl) H ?_
        clear H; intro g43 w H
        refine OPS.append (m := 1) (news := [I rn[i]]) (R := ⟨g43, 3, [I rn[i]]⟩ :: ([⟨g9, 49, fndV m l ts ns hd rt s A' c'⟩, ⟨g6, 34, [I 0, .slice none 0 0]⟩, ⟨g3, 28, [I m, .slice A l.length ca, .slice B ts.length cb, .slice C ns.length cc, I hd]⟩] ++ Lf)) rfl rfl rfl rfl rfl (sl_run rfl) rfl rfl hOX rfl (src_own H 0 rfl) rfl (by omega) (by unfold maxLen; omega) H (List.Perm.refl _) ?_
        clear H hOX; intro X cx Lx w hOX H
        replace H := H.drop (List.sublist_cons_self _ _)
        refine OPS.val rfl rfl rfl (Ev.asS rfl) ?_
        refine OPS.nil ?_
        refine WP.region ?_
        refine OPS.val rfl rfl rfl (Ev.add rfl rfl (by unfold fits; omega)) ?_
        refine OPS.val rfl rfl rfl (Ev.mvI rfl) ?_
        refine OPS.nil ?_
        first
          | exact ⟨(by repeat (first | exact Agree.refl _ _ | exact Agree.mix _ _ _ | refine Agree.upd rfl ?_ | refine Agree.mix2 rfl ?_)), k2 - 1, by omega, i + 1, X, cx, Lx, by omega, rfl, by rw [hpk, List.length_append]; rfl, by rw [hpk, List.length_append, List.map_append]; exact hOX, H⟩
          | exact ⟨(by repeat (first | exact Agree.refl _ _ | exact Agree.mix _ _ _ | refine Agree.upd rfl ?_ | refine Agree.mix2 rfl ?_)), k2 - 1, by omega, i + 1, X, cx, Lx, by omega, rfl, by rw [hpk]; rfl, by rw [hpk]; exact hOX, H⟩
      have hbit : ¬ (j / 2 ^ i) % 2 = 1 := by
        have h : ¬ (((j / 2 ^ i) % 2 : Nat) : Int) = 1 := by simpa using hc12
        omega
      rw [if_neg hbit, List.append_nil] at hpk
      refine WP.skip ?_
      refine WP.region ?_
      refine OPS.val rfl rfl rfl (Ev.add rfl rfl (by unfold fits; omega)) ?_
      refine OPS.val rfl rfl rfl (Ev.mvI rfl) ?_
      refine OPS.nil ?_
      first
        | exact ⟨(by repeat (first | exact Agree.refl _ _ | exact Agree.mix _ _ _ | refine Agree.upd rfl ?_ | refine Agree.mix2 rfl ?_)), k2 - 1, by omega, i + 1, X, cx, Lx, by omega, rfl, by rw [hpk, List.length_append]; rfl, by rw [hpk, List.length_append, List.map_append]; exact hOX, H⟩
        | exact ⟨(by repeat (first | exact Agree.refl _ _ | exact Agree.mix _ _ _ | refine Agree.upd rfl ?_ | refine Agree.mix2 rfl ?_)), k2 - 1, by omega, i + 1, X, cx, Lx, by omega, rfl, by rw [hpk]; rfl, by rw [hpk]; exact hOX, H⟩
    have hi : i = rn.length := by simp at hc10; omega
    subst hi
    rw [List.take_length] at hOX
    rw [List.take_length]
    have hys := pickS_sub rn j
    have hyl := hys.length_le
    have hynd : (pickS rn j).Nodup := hnd.sublist hys
    have hyin : ∀ i ∈ pickS rn j, 0 ≤ i ∧ i < ns.length := fun i hi => hin i (hys.subset hi)
    refine WP.exit ?_
    refine XB.hit ?_
    refine WP.seq ?_
    refine WP.region ?_
    refine OPS.val rfl rfl rfl ((by exact Ev.loadO 2 H rfl (agg_run rfl) (size_run rfl) (by rfl) rfl)) ?_
    refine OPS.val rfl rfl rfl (Ev.mvI rfl) ?_
    refine OPS.val rfl rfl rfl (Ev.mvS rfl) ?_
    refine OPS.call (d := some 49) rfl rfl rfl (EvC.func (fun_run rfl)) (routeBest m hd rt A B C X l ts ns (pickS rn j) ca cb cc cx w (hz.sh H) (ht.sh H) (hn.sh H) hcc hm hN.nl (hOX.ones H).1 (by omega) hynd hyin) ?_
    rintro _ w ⟨s2, A2, c2, L2, rfl, hb2, hxl2, hOF2, Hc⟩
    refine ⟨_, rfl, ?_⟩
    replace H := SH.call (L1 := _) (Lv := []) (by rw [List.append_nil]; exact H.drop (List.sublist_append_left _ Lx)) Hc
    clear Hc
    have hlen2 := fndV_len m l ts ns hd rt s2 A2 c2
    have hok2 : (fndV m l ts ns hd rt s2 A2 c2)[3]? = some (.bool s2.isSome) := by cases s2 <;> rfl
    have hb3 : IsBest (mvL ns) (secsD m l ts ns hd rt) (UpTo m l ts ns hd rt rn (j + 1)) (bet (mvL ns) (secsD m l ts ns hd rt) s s2) := (hbest.union hb2).congr fun o => by
      constructor
      · rintro (⟨i, h1, h2⟩ | h)
        · exact ⟨i, by omega, h2⟩
        · exact ⟨j, by omega, h⟩
      · rintro ⟨i, h1, h2⟩
        by_cases h : i = j
        · subst h; exact .inr h2
        · exact .inl ⟨i, by omega, h2⟩
    have hxl3 : ∀ x, bet (mvL ns) (secsD m l ts ns hd rt) s s2 = some x → x.length ≤ 1000 := fun x hx => by
      rcases bet_or (m := mvL ns) (d := secsD m l ts ns hd rt) s s2 with h | h
      · exact hxl x (h ▸ hx)
      · exact hxl2 x (h ▸ hx)
    refine OPS.alloc rfl rfl rfl rfl (zero_run rfl) rfl H ?_
    clear H; intro g14 w H
    refine OPS.store (vs := fndV m l ts ns hd rt s2 A2 c2) 0 _ rfl rfl rfl (size_run rfl) rfl (cA rfl) hlen2 (fndV_one m l ts ns hd rt s2 A2 c2) H rfl (by simp) ?_
    clear H; intro w H
    replace H : SH w0 [] w (⟨g14, 49, putL (fndV m l ts ns hd rt none none 0) 0 (fndV m l ts ns hd rt s2 A2 c2)⟩ :: _) := H
    rw [fndV_put] at H
    refine OPS.nil ?_
    refine WP.seq ?_
    refine WP.region ?_
    refine OPS.val rfl rfl rfl (Ev.fieldAddr (fld_run rfl) rfl) ?_
    refine OPS.val rfl rfl rfl (Ev.load1 (agg_run rfl) rfl (H.ldL 0 rfl 3 hok2)) ?_
    refine OPS.nil ?_
    refine WP.cond rfl (fun hc16 => ?_) (fun hc16 => ?_)
    · obtain ⟨y, rfl⟩ : ∃ y, s2 = some y := Option.isSome_iff_exists.1 (by simpa using hc16)
      refine WP.region ?_
      refine OPS.val rfl rfl rfl (Ev.loadO 1 H rfl (agg_run rfl) (size_run rfl) (fndV_len m l ts ns hd rt s A' c') rfl) ?_
      refine OPS.val rfl rfl rfl (Ev.loadO 0 H rfl (agg_run rfl) (size_run rfl) hlen2 rfl) ?_
      refine OPS.call (d := some 54) rfl rfl rfl (EvC.func (fun_run rfl)) (betterO m l ts ns hd rt s A' c' A2 y c2 w (fun x hx => ⟨by subst hx; exact (OwnS.ones hOF (H.drop ((List.sublist_append_left _ L2).trans (List.sublist_cons_self _ _)))).1, hxl x hx⟩) (OwnS.ones hOF2 (H.drop (List.sublist_cons_self _ _))).1 (hxl2 y rfl)) ?_
      rintro _ w ⟨rfl, hb⟩
      refine ⟨_, rfl, ?_⟩
      replace H := H.toBelow hb; clear hb
      refine OPS.store (vs := fndV m l ts ns hd rt (bet (mvL ns) (secsD m l ts ns hd rt) s (some y)) (if takesB m l ts ns hd rt s y = true then A2 else A') (if takesB m l ts ns hd rt s y = true then c2 else c')) 1 _ rfl rfl rfl (size_run rfl) rfl (cA rfl) (fndV_len m l ts ns hd rt _ _ _) (fndV_one m l ts ns hd rt _ _ _) H rfl (by rw [fndV_len]; exact Nat.le_refl _) ?_
      clear H; intro w H
      replace H : SH w0 [] w (⟨g14, 49, _⟩ :: ⟨g9, 49, putL (fndV m l ts ns hd rt s A' c') 0 (fndV m l ts ns hd rt (bet (mvL ns) (secsD m l ts ns hd rt) s (some y)) (if takesB m l ts ns hd rt s y = true then A2 else A') (if takesB m l ts ns hd rt s y = true then c2 else c'))⟩ :: ⟨g6, 34, [I 0, .slice none 0 0]⟩ :: ⟨g3, 28, [I m, .slice A l.length ca, .slice B ts.length cb, .slice C ns.length cc, I hd]⟩ :: (Lf ++ L2)) := H
      rw [fndV_put] at H
      replace H := H.drop (List.sublist_cons_self _ _)
      obtain ⟨A3, c3, L3, hO3, H3⟩ : ∃ A3 c3 L3, OwnF (bet (mvL ns) (secsD m l ts ns hd rt) s (some y)) A3 c3 L3 ∧ SH w0 [] w ([⟨g9, 49, fndV m l ts ns hd rt (bet (mvL ns) (secsD m l ts ns hd rt) s (some y)) A3 c3⟩, ⟨g6, 34, [I 0, .slice none 0 0]⟩, ⟨g3, 28, [I m, .slice A l.length ca, .slice B ts.length cb, .slice C ns.length cc, I hd]⟩] ++ L3) := by
        rw [takes_bet] at H ⊢
        by_cases htk : takesB m l ts ns hd rt s y = true
        · rw [if_pos htk, if_pos htk, if_pos htk] at H
          rw [if_pos htk]
          exact ⟨A2, c2, L2, hOF2, H.drop ((((List.sublist_append_right Lf L2).cons_cons _).cons_cons _).cons_cons _)⟩
        · rw [if_neg htk, if_neg htk, if_neg htk] at H
          rw [if_neg htk]
          exact ⟨A', c', Lf, hOF, H.drop ((((List.sublist_append_left Lf L2).cons_cons _).cons_cons _).cons_cons _)⟩
      refine OPS.nil ?_
      refine WP.region ?_
      refine OPS.val rfl rfl rfl (Ev.add rfl rfl (by unfold fits; omega)) ?_
      refine OPS.val rfl rfl rfl (Ev.mvI rfl) ?_
      refine OPS.nil ?_
      exact ⟨(by repeat (first | exact Agree.refl _ _ | exact Agree.mix _ _ _ | refine Agree.upd rfl ?_ | refine Agree.mix2 rfl ?_)), k - 1, by omega, j + 1, _, A3, c3, L3, by omega, rfl, hb3, hxl3, hO3, H3⟩
    obtain rfl : s2 = none := by simpa using hc16
    obtain ⟨A3, c3, L3, hO3, H3⟩ : ∃ A3 c3 L3, OwnF (bet (mvL ns) (secsD m l ts ns hd rt) s none) A3 c3 L3 ∧ SH w0 [] w ([⟨g9, 49, fndV m l ts ns hd rt (bet (mvL ns) (secsD m l ts ns hd rt) s none) A3 c3⟩, ⟨g6, 34, [I 0, .slice none 0 0]⟩, ⟨g3, 28, [I m, .slice A l.length ca, .slice B ts.length cb, .slice C ns.length cc, I hd]⟩] ++ L3) := by
      rw [bet_none]
      exact ⟨A', c', Lf, hOF, H.drop ((List.sublist_append_left _ L2).trans (List.sublist_cons_self _ _))⟩
    refine WP.skip ?_
    refine WP.region ?_
    refine OPS.val rfl rfl rfl (Ev.add rfl rfl (by unfold fits; omega)) ?_
    refine OPS.val rfl rfl rfl (Ev.mvI rfl) ?_
    refine OPS.nil ?_
    exact ⟨(by repeat (first | exact Agree.refl _ _ | exact Agree.mix _ _ _ | refine Agree.upd rfl ?_ | refine Agree.mix2 rfl ?_)), k - 1, by omega, j + 1, _, A3, c3, L3, by omega, rfl, hb3, hxl3, hO3, H3⟩
  have hj : j = 2 ^ rn.length := by
    have h : ¬ (j : Int) < ((2 ^ rn.length : Nat) : Int) := by simpa using hc6
    omega
  subst hj
  have hbest' : IsBest (mvL ns) (secsD m l ts ns hd rt) (SubP m l ts ns hd rt rn) s := hbest.congr fun o => by
    constructor
    · rintro ⟨i, h1, h2, h3⟩
      have hs := pickS_sub rn i
      exact ⟨⟨h2.nodup_iff.2 (hnd.sublist hs), fun x hx => hs.subset (h2.mem_iff.1 hx)⟩, h3⟩
    · rintro ⟨⟨h1, h2⟩, h3⟩
      obtain ⟨i, h4, h5⟩ := part_of hnd h1 h2
      exact ⟨i, h4, h5, h3⟩
  obtain ⟨x, X, c, hxe, hfd, hOx⟩ : ∃ (x : List Int) (X : Option Addr) (c : Nat), s.getD [] = x ∧ (fndV m l ts ns hd rt s A' c')[0]? = some (.slice X x.length c) ∧ OwnS X c x.length (x.map I) 3 1 Lf := by
    cases s with
    | none => obtain rfl : Lf = [] := hOF; exact ⟨[], none, 0, rfl, rfl, OwnS.nil⟩
    | some x => exact ⟨x, A', c', rfl, rfl, hOF⟩
  refine WP.exit ?_
  refine XB.hit ?_
  refine WP.seq ?_
  refine WP.region ?_
  refine OPS.val rfl rfl rfl (Ev.mvI rfl) ?_
  refine OPS.val rfl rfl rfl (Ev.fieldAddr (fld_run rfl) rfl) ?_
  refine OPS.val rfl rfl rfl (Ev.load1 (agg_run rfl) rfl (H.ldL 0 rfl 0 hfd)) ?_
  refine OPS.val rfl rfl rfl (Ev.build (bld_34_0_1 rfl rfl)) ?_
  refine OPS.store 1 _ rfl rfl rfl (size_run rfl) rfl (cA rfl) rfl rfl H rfl (by simp) ?_
  clear H; intro w H; try simp only [List.set_cons_zero, List.set_cons_succ, putL, Nat.zero_add] at H
  refine OPS.val rfl rfl rfl (Ev.asI rfl) ?_
  refine OPS.nil ?_
  refine WP.ret ⟨[_, _], ⟨(by exact resCellA 1 H rfl (agg_run rfl) (size_run rfl) (by rfl) rfl), rfl, trivial⟩, ?_⟩
  exact ⟨_, _, x, X, c, Lf, rfl, by rw [← hxe]; exact .ok h0 s hbest', hOx, H.drop ((((List.Sublist.refl _).cons _).cons _).cons _)⟩
end Go.Proofs.Ytfddebpeiilohaa

/-
  Walk: the reference's table of times.
-/
set_option linter.all false
namespace Go.Proofs.Ytfddebpeiilohaa
open Go Go.W Go.RowKit

def Reads (L : List Blk) (P : World → Prop) : Prop := ∀ (w0 : World) (S : List Nat) (w : World), SH w0 S w L → P w
theorem Reads.at {L L' : List Blk} {P : World → Prop} (h : Reads L P) {w0 w : World} {S : List Nat} (H : SH w0 S w L') (hs : L.Sublist L') : P w := h _ _ _ (H.drop hs)
noncomputable def rowT (m : Nat) (l : List Edg) (nodes : List Nat) (s : Nat) : List Int := nodes.map fun v => roadT m l s v
def slV (n : Nat) (d : Option Addr × Nat) : Value := .slice d.1 n d.2
/-- a table of times in memory -/
def TabAt (w : World) (T : Option Addr) (m : Nat) (l : List Edg) (nodes : List Nat) : Prop :=
  ∃ ds : List (Option Addr × Nat), ds.length = nodes.length ∧ OnesAt (slV nodes.length) w T ds ∧ ∀ i (h : i < ds.length) (h2 : i < nodes.length), IntsAt w ds[i].1 (rowT m l nodes nodes[i])
set_option maxHeartbeats 4000000 in
theorem r8Table (m : Nat) (A R : Option Addr) (l : List Edg) (nodes : List Nat) (cap cr : Nat) (w0 : World) (hz : EdgsAt w0 A l) (hok : RoadOk m l) (hr : IntsAt w0 R (nodes.map fun v : Nat => (v : Int))) (hn : ∀ v ∈ nodes, v < m) (hl : nodes.length ≤ 17) :
    Calls Try.prog 45 #[.agg #[I m, .slice A l.length cap], .slice R nodes.length cr] w0 fun e w' => ∃ (T : Option Addr) (c : Nat) (L : List Blk), e = .returned (.tuple #[.slice T nodes.length c, I 0]) ∧ Reads L (fun w => TabAt w T m l nodes) ∧ SH w0 [] w' L := by
  have H := SH.refl w0
  have hre := roadErr_ok hok
  have hcell : ∀ j (h : j < nodes.length), ∃ b o, R = some ⟨b, o, none⟩ ∧ w0.cell? ⟨b, o + j, none⟩ = some (I ((nodes[j] : Nat) : Int)) := fun j h => by
    obtain ⟨b, o, e, hc⟩ := hr j (by simpa using h)
    exact ⟨b, o, e, by simpa using hc⟩
  refine Calls.ofWP Try.func45 rfl Try.results45 Try.ntmps45 rfl ?_
  refine WP.seq ?_
  refine WP.region ?_
  refine OPS.box rfl rfl rfl rfl (cA rfl) H ?_
  clear H; intro g2 w H
  refine OPS.val rfl rfl rfl (Ev.asS rfl) ?_
  refine OPS.val rfl rfl rfl (Ev.asI rfl) ?_
  refine OPS.nil ?_
  refine WP.seq ?_
  refine WP.seq ?_
  refine WP.region ?_
  refine OPS.val rfl rfl rfl ((by exact Ev.loadO 0 H rfl (agg_run rfl) (size_run rfl) (by rfl) rfl)) ?_
  refine OPS.call (d := some 15) rfl rfl rfl (EvC.func (fun_run rfl)) (r8Check m A l cap w (hz.sh H)) ?_
  rintro _ w ⟨rfl, hb⟩
  refine ⟨_, rfl, ?_⟩
  replace H := H.toBelow hb; clear hb
  refine OPS.val rfl rfl rfl (Ev.asI rfl) ?_
  refine OPS.nil ?_
  refine WP.seq ?_
  refine WP.region ?_
  refine OPS.val rfl rfl rfl (Ev.mvI rfl) ?_
  refine OPS.val rfl rfl rfl (Ev.neq rfl rfl) ?_
  refine OPS.nil ?_
  refine WP.cond rfl (fun hc2 => ?_) (fun hc2 => ?_)
  · refine WP.seq ?_
    refine WP.region ?_
    refine OPS.val rfl rfl rfl (Ev.mvI rfl) ?_
    refine OPS.val rfl rfl rfl (Ev.asS rfl) ?_
    refine OPS.val rfl rfl rfl (Ev.asI rfl) ?_
    refine OPS.nil ?_
    refine WP.ret ⟨_, rfl, ?_⟩
    exact absurd hc2 (by rw [hre]; decide)
  refine WP.skip ?_
  refine WP.seq ?_
  refine WP.seq ?_
  refine WP.region ?_
  refine OPS.val rfl rfl rfl (Ev.mvS rfl) ?_
  refine OPS.val rfl rfl rfl (Ev.len (el_run rfl) rfl) ?_
  refine OPS.val rfl rfl rfl (Ev.gtr rfl rfl) ?_
  refine OPS.nil ?_
  refine WP.cond rfl (fun hc4 => ?_) (fun hc4 => ?_)
  · refine WP.seq ?_
    refine WP.region ?_
    refine OPS.val rfl rfl rfl (Ev.asS rfl) ?_
    refine OPS.val rfl rfl rfl (Ev.asI rfl) ?_
    refine OPS.nil ?_
    refine WP.ret ⟨_, rfl, ?_⟩
    exfalso
    simp at hc4; omega
  refine WP.skip ?_
  refine WP.seq ?_
  refine WP.seq ?_
  refine WP.region ?_
  refine OPS.val rfl rfl rfl (Ev.asI rfl) ?_
  refine OPS.nil ?_
  refine WP.block ?_
  refine WP.loop [4, 5, 7, 22, 23, 24, 25, 26, 27, 28, 29, 30, 31, 32, 33, 34] (fun k e w' => ∃ (j : Nat), j + k = nodes.length ∧ e 7 = I j ∧ SH w0 [] w' [⟨g2, 24, [I m, .slice A l.length cap]⟩]) (nodes.length) (⟨0, by omega, rfl, H⟩) ?_
  clear H
  rintro k u w ⟨j, hk, h7, H⟩
  refine WP.know (t := 7) h7 ?_
  refine WP.seq ?_
  refine WP.seq ?_
  refine WP.region ?_
  refine OPS.val rfl rfl rfl (Ev.mvI rfl) ?_
  refine OPS.val rfl rfl rfl (Ev.mvS rfl) ?_
  refine OPS.val rfl rfl rfl (Ev.len (el_run rfl) rfl) ?_
  refine OPS.val rfl rfl rfl (Ev.lss rfl rfl) ?_
  refine OPS.nil ?_
  refine WP.cond rfl (fun hc7 => ?_) (fun hc7 => ?_)
  · have hlt : j < nodes.length := by simpa using hc7
    obtain ⟨br, orr, rfl, hx⟩ := hcell j hlt
    have hnj := hn nodes[j] (List.getElem_mem hlt)
    generalize nodes[j] = v at hx hnj
    refine WP.skip ?_
    refine WP.seq ?_
    refine WP.block ?_
    refine WP.seq ?_
    refine WP.rquiet mixed (by kernel_rfl) H ?_
    clear H; intro w hbw9 H
    refine OPS.val rfl rfl rfl ((by exact Ev.loadO 0 H rfl (agg_run rfl) (size_run rfl) (by rfl) rfl)) ?_
    refine OPS.val rfl rfl rfl (Ev.mvS rfl) ?_
    refine OPS.val rfl rfl rfl (Ev.mvI rfl) ?_
    refine OPS.val rfl rfl rfl ((by exact Ev.indexAddr1 (el_run rfl) (size_run rfl) rfl rfl rfl (by omega))) ?_
    refine OPS.val rfl rfl rfl (Ev.load1 (agg_run rfl) rfl (by exact H.ld0 (by assumption))) ?_
    refine OPS.callq rfl rfl rfl (EvC.func (fun_run rfl)) (fun w2 hb2 => r8Node m v A l.length cap w2) ?_
    refine OPS.val rfl rfl rfl (Ev.not rfl) ?_
    refine OPS.nilq H ?_
    clear H; intro w hbx9 H
    refine WP.cond rfl (fun hc9 => ?_) (fun hc9 => ?_)
    · refine WP.seq ?_
      refine WP.region ?_
      refine OPS.val rfl rfl rfl (Ev.asS rfl) ?_
      refine OPS.val rfl rfl rfl (Ev.asI rfl) ?_
      refine OPS.nil ?_
      refine WP.ret ⟨_, rfl, ?_⟩
      exfalso
      have : isNode m v = true := by unfold isNode; simp; omega
      rw [this] at hc9; cases hc9
    refine WP.skip ?_
    refine WP.region ?_
    refine OPS.val rfl rfl rfl (Ev.mvI rfl) ?_
    refine OPS.val rfl rfl rfl (Ev.add rfl rfl (by unfold fits; omega)) ?_
    refine OPS.val rfl rfl rfl (Ev.asI rfl) ?_
    refine OPS.nil ?_
    exact ⟨(by repeat (first | exact Agree.refl _ _ | exact Agree.mix _ _ _ | refine Agree.upd rfl ?_ | refine Agree.mix2 rfl ?_)), k - 1, by omega, j + 1, by omega, rfl, H⟩
  refine WP.exit ?_
  refine XB.hit ?_
  refine WP.seq ?_
  refine WP.region ?_
  refine OPS.val rfl rfl rfl (Ev.asS rfl) ?_
  refine OPS.nil ?_
  refine WP.seq ?_
  refine WP.seq ?_
  refine WP.region ?_
  refine OPS.val rfl rfl rfl (Ev.asI rfl) ?_
  refine OPS.nil ?_
  refine WP.block ?_
  refine WP.loop [8, 9, 10, 11, 12, 13, 35, 36, 37, 38, 39, 40, 41, 42, 43, 44, 45, 46, 47, 48, 49, 50, 51, 52, 53, 54, 55, 56, 57, 58, 59, 60, 61, 62, 63, 64, 65, 66, 67, 68, 69] (fun k e w' => ∃ (j : Nat) (T : Option Addr) (c : Nat) (ds : List (Option Addr × Nat)) (Lo Lr : List Blk), j + k = nodes.length ∧ e 9 = I j ∧ e 8 = .slice T j c ∧ ds.length = j ∧ OwnS T c j (ds.map (slV nodes.length)) 29 1 Lo ∧ Reads Lr (fun w => ∀ i (h : i < ds.length) (h2 : i < nodes.length), IntsAt w ds[i].1 (rowT m l nodes nodes[i])) ∧ SH w0 [] w' ((⟨g2, 24, [I m, .slice A l.length cap]⟩ :: Lr) ++ Lo)) (nodes.length) (⟨0, none, 0, [], [], [], by omega, rfl, rfl, rfl, OwnS.nil, (fun _ _ _ _ i h => absurd h (by simp)), H⟩) ?_
  clear H
  rintro k u w ⟨j, T, c, ds, Lo, Lr, hk, h9, h8, hdl, hOT, hRd, H⟩
  refine WP.know (t := 9) h9 (WP.know (t := 8) h8 ?_)
  refine WP.seq ?_
  refine WP.seq ?_
  refine WP.region ?_
  refine OPS.val rfl rfl rfl (Ev.mvI rfl) ?_
  refine OPS.val rfl rfl rfl (Ev.mvS rfl) ?_
  refine OPS.val rfl rfl rfl (Ev.len (el_run rfl) rfl) ?_
  refine OPS.val rfl rfl rfl (Ev.lss rfl rfl) ?_
  refine OPS.nil ?_
  refine WP.cond rfl (fun hc13 => ?_) (fun hc13 => ?_)
  · have hlt : j < nodes.length := by simpa using hc13
    have hcj := hcell j hlt
    obtain ⟨br, orr, hRe, hx⟩ := hcj
    have hnj := hn nodes[j] (List.getElem_mem hlt)
    obtain ⟨hte, htl⟩ := timesOf_ok hok hnj
    have htn := timesL_length m l nodes[j]
    have htc := r8Times m nodes[j] A l cap
    rw [htl, hte] at htc
    subst hRe
    refine WP.skip ?_
    refine WP.seq ?_
    refine WP.block ?_
    refine WP.seq ?_
    refine WP.rheldC [10, 11, 41, 42, 43, 44, 45, 46, 47, 48, 49] (fun u w' => ∃ (TA : Option Addr) (Lc : List Blk), u 10 = .slice TA (timesL m l nodes[j]).length (timesL m l nodes[j]).length ∧ OwnL 3 I TA (timesL m l nodes[j]) Lc ∧ SH w0 [] w' (((⟨g2, 24, [I m, .slice A l.length cap]⟩ :: Lr) ++ Lo) ++ Lc)) mixed H ?_ ?_
    · clear H; intro w hbw15 H
      refine OPH.take 0 rfl rfl rfl rfl (by kernel_rfl) (by kernel_rfl) (by kernel_rfl) rfl (by exact H) (fun w H => (by exact Ev.loadO 0 H rfl (agg_run rfl) (size_run rfl) (by rfl) rfl)) ?_
      refine OPH.take 1 rfl rfl rfl rfl (by kernel_rfl) (by kernel_rfl) (by kernel_rfl) rfl (by exact H) (fun w H => Ev.mvS rfl) ?_
      refine OPH.take 2 rfl rfl rfl rfl (by kernel_rfl) (by kernel_rfl) (by kernel_rfl) rfl (by exact H) (fun w H => Ev.mvI rfl) ?_
      refine OPH.take 3 rfl rfl rfl rfl (by kernel_rfl) (by kernel_rfl) (by kernel_rfl) rfl (by exact H) (fun w H => (by exact Ev.indexAddr1 (el_run rfl) (size_run rfl) rfl rfl rfl (by omega))) ?_
      refine OPH.take 4 rfl rfl rfl rfl (by kernel_rfl) (by kernel_rfl) (by kernel_rfl) rfl (by exact H) (fun w H => Ev.load1 (agg_run rfl) rfl (by exact H.ld0 (by assumption))) ?_
      refine OPH.all [5] (by kernel_rfl) (by simp) rfl ?_
      intro i hi; simp only [List.mem_cons, List.not_mem_nil, or_false] at hi
      rcases hi with rfl
      · refine ⟨_, rfl, ?_⟩
        refine OPS.call (d := some 47) rfl rfl rfl (EvC.func (fun_run rfl)) (htc _ (hz.sh H)) ?_
        rintro _ w ⟨TA, Lc, rfl, hOL, Hc⟩
        refine ⟨_, rfl, ?_⟩
        have Hf := SH.call (L1 := (⟨g2, 24, [I m, .slice A l.length cap]⟩ :: Lr) ++ Lo) (Lv := []) (by rw [List.append_nil]; exact H) Hc
        clear H Hc
        have H := Hf.drop (List.sublist_append_left _ _)
        refine OPS.nil ?_
        refine ⟨(by exact H), ?_⟩
        refine OPH.take 6 rfl rfl rfl rfl (by kernel_rfl) (by kernel_rfl) (by kernel_rfl) rfl (by exact H) (fun w H => Ev.mvT rfl) ?_
        refine OPH.take 7 rfl rfl rfl rfl (by kernel_rfl) (by kernel_rfl) (by kernel_rfl) rfl (by exact H) (fun w H => Ev.extract rfl rfl) ?_
        refine OPH.take 8 rfl rfl rfl rfl (by kernel_rfl) (by kernel_rfl) (by kernel_rfl) rfl (by exact H) (fun w H => Ev.extract rfl rfl) ?_
        refine OPH.take 9 rfl rfl rfl rfl (by kernel_rfl) (by kernel_rfl) (by kernel_rfl) rfl (by exact H) (fun w H => Ev.asS rfl) ?_
        refine OPH.take 10 rfl rfl rfl rfl (by kernel_rfl) (by kernel_rfl) (by kernel_rfl) rfl (by exact H) (fun w H => Ev.asI rfl) ?_
        refine OPH.done (by kernel_rfl) ?_
        exact ⟨(by repeat (first | exact Agree.refl _ _ | exact Agree.mix _ _ _ | refine Agree.upd rfl ?_ | refine Agree.mix2 rfl ?_)), TA, Lc, rfl, hOL, Hf⟩
    clear H
    rintro u w ⟨TA, Lc, h10, hOL, H⟩
    refine WP.know (t := 10) h10 ?_
    refine WP.seq ?_
    refine WP.region ?_
    refine OPS.val rfl rfl rfl (Ev.asS rfl) ?_
    refine OPS.nil ?_
    refine WP.seq ?_
    refine WP.seq ?_
    refine WP.region ?_
    refine OPS.val rfl rfl rfl (Ev.asI rfl) ?_
    refine OPS.nil ?_
    refine WP.block ?_
    refine WP.loop [12, 13, 50, 51, 52, 53, 54, 55, 56, 57, 58, 59, 60, 61, 62, 63, 64, 65] (fun k e w' => ∃ (i : Nat) (X : Option Addr) (cx : Nat) (Lx : List Blk), i + k = nodes.length ∧ e 13 = I i ∧ e 12 = .slice X i cx ∧ OwnS X cx i (((rowT m l nodes nodes[j]).take i).map I) 3 1 Lx ∧ SH w0 [] w' ((((⟨g2, 24, [I m, .slice A l.length cap]⟩ :: Lr) ++ Lo) ++ Lc) ++ Lx)) (nodes.length) (⟨0, none, 0, [], by omega, rfl, rfl, OwnS.nil, by rw [List.append_nil]; exact H⟩) ?_
    clear H
    rintro k2 u2 w ⟨i, X, cx, Lx, hk2, h13, h12, hOX, H⟩
    refine WP.know (t := 13) h13 (WP.know (t := 12) h12 ?_)
    refine WP.seq ?_
    refine WP.seq ?_
    refine WP.region ?_
    refine OPS.val rfl rfl rfl (Ev.mvI rfl) ?_
    refine OPS.val rfl rfl rfl (Ev.mvS rfl) ?_
    refine OPS.val rfl rfl rfl (Ev.len (el_run rfl) rfl) ?_
    refine OPS.val rfl rfl rfl (Ev.lss rfl rfl) ?_
    refine OPS.nil ?_
    refine WP.cond rfl (fun hc18 => ?_) (fun hc18 => ?_)
    · have hil : i < nodes.length := by simpa using hc18
      obtain ⟨_, _, e1, hy⟩ := hcell i hil
      cases e1
      have hni := hn nodes[i] (List.getElem_mem hil)
      have hvl : nodes[i] < (timesL m l nodes[j]).length := by rw [htn]; exact hni
      obtain ⟨bt, ot, hTe, htx⟩ := hOL.rd H (fun b hb => List.mem_append_left _ (List.mem_append_right _ hb)) nodes[i] hvl
      rw [timesL_at hvl] at htx
      subst hTe
      have hrl : i < (rowT m l nodes nodes[j]).length := by unfold rowT; simpa using hil
      have htk : ((rowT m l nodes nodes[j]).take (i + 1)).map I = ((rowT m l nodes nodes[j]).take i).map I ++ [I (roadT m l nodes[j] nodes[i])] := by
        rw [List.take_succ_eq_append_getElem hrl, List.map_append]
        simp [rowT]
      refine WP.skip ?_
      refine WP.seq ?_
      refine WP.block ?_
      refine WP.region ?_
      refine OPS.val rfl rfl rfl (Ev.mvS rfl) ?_
      refine OPS.val rfl rfl rfl (Ev.mvS rfl) ?_
      refine OPS.val rfl rfl rfl (Ev.mvS rfl) ?_
      refine OPS.val rfl rfl rfl (Ev.mvI rfl) ?_
      refine OPS.val rfl rfl rfl ((by exact Ev.indexAddr1 (el_run rfl) (size_run rfl) rfl rfl rfl (by omega))) ?_
      refine OPS.val rfl rfl rfl (Ev.load1 (agg_run rfl) rfl (by exact H.ld0 (by assumption))) ?_
      refine OPS.val rfl rfl rfl ((by exact Ev.indexAddr1 (el_run rfl) (size_run rfl) rfl rfl rfl (by omega))) ?_
      refine OPS.val rfl rfl rfl (Ev.load1 (agg_run rfl) rfl (by assumption)) ?_
      refine OPS.buildSlice rfl rfl rfl rfl (bsl_29_1_0 rfl) H ?_
      clear H; intro g64 w H
      refine OPS.append (m := 1) (news := [I (roadT m l nodes[j] nodes[i])]) (R := ⟨g64, 3, [I (roadT m l nodes[j] nodes[i])]⟩ :: (((⟨g2, 24, [I m, .slice A l.length cap]⟩ :: Lr) ++ Lo) ++ Lc)) rfl rfl rfl rfl rfl (sl_run rfl) rfl rfl hOX rfl (src_own H 0 rfl) rfl (by omega) (by unfold maxLen; omega) H (List.Perm.refl _) ?_
      clear H hOX; intro X cx Lx w hOX H
      replace H := H.drop (List.sublist_cons_self _ _)
      refine OPS.val rfl rfl rfl (Ev.asS rfl) ?_
      refine OPS.nil ?_
      refine WP.region ?_
      refine OPS.val rfl rfl rfl (Ev.mvI rfl) ?_
      refine OPS.val rfl rfl rfl (Ev.add rfl rfl (by unfold fits; omega)) ?_
      refine OPS.val rfl rfl rfl (Ev.asI rfl) ?_
      refine OPS.nil ?_
      exact ⟨(by repeat (first | exact Agree.refl _ _ | exact Agree.mix _ _ _ | refine Agree.upd rfl ?_ | refine Agree.mix2 rfl ?_)), k2 - 1, by omega, i + 1, X, cx, Lx, by omega, rfl, rfl, by rw [htk]; exact hOX, H⟩
    have hi : i = nodes.length := by simp at hc18; omega
    subst hi
    rw [List.take_of_length_le (by unfold rowT; simp)] at hOX
    replace H := H.drop (L' := ((⟨g2, 24, [I m, .slice A l.length cap]⟩ :: Lr) ++ Lo) ++ Lx) (List.Sublist.append (List.sublist_append_left _ _) (List.Sublist.refl _))
    have hRx : Reads Lx (fun w => IntsAt w X (rowT m l nodes nodes[j])) := fun w0 S w H => (hOX.ones (R := []) H).1
    refine WP.exit ?_
    refine XB.hit ?_
    refine WP.region ?_
    refine OPS.val rfl rfl rfl (Ev.mvS rfl) ?_
    refine OPS.val rfl rfl rfl (Ev.mvS rfl) ?_
    refine OPS.buildSlice rfl rfl rfl rfl (bsl_55_1_0 rfl) H ?_
    clear H; intro g68 w H
    refine OPS.append (m := 1) (news := [.slice X nodes.length cx]) (R := ⟨g68, 29, [.slice X nodes.length cx]⟩ :: ((⟨g2, 24, [I m, .slice A l.length cap]⟩ :: Lr) ++ Lx)) rfl rfl rfl rfl rfl (sl_run rfl) rfl rfl hOT rfl (src_own H 0 rfl) rfl (by omega) (by unfold maxLen; omega) H (by exact permBy fun f => by simp <;> omega) ?_
    clear H hOT; intro T c Lo w hOT H
    replace H := H.drop (List.sublist_cons_self _ _)
    refine OPS.val rfl rfl rfl (Ev.asS rfl) ?_
    refine OPS.nil ?_
    refine WP.region ?_
    refine OPS.val rfl rfl rfl (Ev.mvI rfl) ?_
    refine OPS.val rfl rfl rfl (Ev.add rfl rfl (by unfold fits; omega)) ?_
    refine OPS.val rfl rfl rfl (Ev.asI rfl) ?_
    refine OPS.nil ?_
    exact ⟨(by repeat (first | exact Agree.refl _ _ | exact Agree.mix _ _ _ | refine Agree.upd rfl ?_ | refine Agree.mix2 rfl ?_)), k - 1, by omega, j + 1, T, c, ds ++ [(X, cx)], Lo, Lr ++ Lx, by omega, rfl, rfl, by simp [hdl], by rw [List.map_append]; exact hOT, (fun w0 S w H i h h2 => by
      by_cases hij : i < ds.length
      · rw [List.getElem_append_left hij]
        exact (hRd.at H (List.sublist_append_left _ _)) i hij h2
      · have hij2 : i = j := by simp at h; omega
        subst hij2
        rw [List.getElem_append_right (by omega)]
        simp only [hdl, Nat.sub_self, List.getElem_cons_zero]
        exact hRx.at H (List.sublist_append_right _ _)), by simpa using H⟩
  refine WP.exit ?_
  refine XB.hit ?_
  refine WP.seq ?_
  refine WP.region ?_
  refine OPS.val rfl rfl rfl (Ev.mvS rfl) ?_
  refine OPS.val rfl rfl rfl (Ev.asS rfl) ?_
  refine OPS.val rfl rfl rfl (Ev.asI rfl) ?_
  refine OPS.nil ?_
  refine WP.ret ⟨_, rfl, ?_⟩
  have hj : j = nodes.length := by simp at hc13; omega
  subst hj
  exact ⟨T, c, Lr ++ Lo, rfl, (fun w0 S w H => ⟨ds, hdl, (hOT.ones H).1, hRd.at H (List.sublist_append_left _ _)⟩), H.drop (List.sublist_cons_self _ _)⟩
end Go.Proofs.Ytfddebpeiilohaa

/-
  Plain: the chapter's example.
-/
set_option linter.all false
namespace Go.Proofs.Ytfddebpeiilohaa
open Go Go.W Go.RowKit

def xL : List Edg := [⟨0, 1, 10⟩, ⟨1, 0, 10⟩, ⟨1, 2, 10⟩, ⟨2, 1, 10⟩, ⟨2, 0, 30⟩]
def xT : List Truck := [⟨0, 10, 0, 1000⟩]
def xN : List Need := [⟨1, 5⟩, ⟨2, -3⟩]
theorem xNight : nightErr 3 xL xT xN 1 = 0 := by decide
theorem xRoad : RoadOk 3 xL := by
  obtain ⟨m, hm, hN⟩ := nightOk_of xNight
  obtain rfl : m = 3 := by omega
  exact hN.road
theorem xEdge {i u v : Nat} {w : Int} (h : EdgeAt xL i u v w) : (u = 0 ∧ v = 1 ∧ w = 10) ∨ (u = 1 ∧ v = 0 ∧ w = 10) ∨ (u = 1 ∧ v = 2 ∧ w = 10) ∨ (u = 2 ∧ v = 1 ∧ w = 10) ∨ (u = 2 ∧ v = 0 ∧ w = 30) := by
  obtain ⟨hi, h1, h2, h3⟩ := h
  have hi6 : i < 5 := hi
  match i, hi6, hi, h1, h2, h3 with
  | 0, _, _, h1, h2, h3 => have h1 : (0 : Int) = u := h1; have h2 : (1 : Int) = v := h2; have h3 : (10 : Int) = w := h3; omega
  | 1, _, _, h1, h2, h3 => have h1 : (1 : Int) = u := h1; have h2 : (0 : Int) = v := h2; have h3 : (10 : Int) = w := h3; omega
  | 2, _, _, h1, h2, h3 => have h1 : (1 : Int) = u := h1; have h2 : (2 : Int) = v := h2; have h3 : (10 : Int) = w := h3; omega
  | 3, _, _, h1, h2, h3 => have h1 : (2 : Int) = u := h1; have h2 : (1 : Int) = v := h2; have h3 : (10 : Int) = w := h3; omega
  | 4, _, _, h1, h2, h3 => have h1 : (2 : Int) = u := h1; have h2 : (0 : Int) = v := h2; have h3 : (30 : Int) = w := h3; omega
def tb3 (a b c : Int) (v : Nat) : Int := if v = 0 then a else if v = 1 then b else c
theorem xRD {s : Nat} {a b c : Int} (h0 : tb3 a b c s = 0) (ha : 0 ≤ a) (hb : 0 ≤ b) (hc : 0 ≤ c) (hclo : b ≤ a + 10 ∧ a ≤ b + 10 ∧ c ≤ b + 10 ∧ b ≤ c + 10 ∧ a ≤ c + 30)
    (hpar : ∀ v, v < 3 → v ≠ s → ∃ u i w, u < 3 ∧ EdgeAt xL i u v w ∧ tb3 a b c v = tb3 a b c u + w) : RD xL 3 s (fun _ => true) (tb3 a b c) where
  src := ⟨rfl, h0⟩
  clo i u v w hE _ _ _ := by
    refine ⟨rfl, ?_⟩
    rcases xEdge hE with ⟨rfl, rfl, rfl⟩ | ⟨rfl, rfl, rfl⟩ | ⟨rfl, rfl, rfl⟩ | ⟨rfl, rfl, rfl⟩ | ⟨rfl, rfl, rfl⟩ <;> simp [tb3] <;> omega
  par v hv _ hvs := by
    obtain ⟨u, i, w, h1, h2, h3⟩ := hpar v hv hvs
    exact ⟨u, i, w, h1, rfl, h2, h3⟩
  nn v _ _ := by unfold tb3; split <;> (try split) <;> omega
theorem xRD0 : RD xL 3 0 (fun _ => true) (tb3 0 10 20) := xRD rfl (by omega) (by omega) (by omega) (by omega) fun v hv hne => by
  rcases (show v = 1 ∨ v = 2 by omega) with rfl | rfl
  · exact ⟨0, 0, 10, by omega, ⟨by decide, rfl, rfl, rfl⟩, rfl⟩
  · exact ⟨1, 2, 10, by omega, ⟨by decide, rfl, rfl, rfl⟩, rfl⟩
theorem xRD1 : RD xL 3 1 (fun _ => true) (tb3 10 0 10) := xRD rfl (by omega) (by omega) (by omega) (by omega) fun v hv hne => by
  rcases (show v = 0 ∨ v = 2 by omega) with rfl | rfl
  · exact ⟨1, 1, 10, by omega, ⟨by decide, rfl, rfl, rfl⟩, rfl⟩
  · exact ⟨1, 2, 10, by omega, ⟨by decide, rfl, rfl, rfl⟩, rfl⟩
theorem xRD2 : RD xL 3 2 (fun _ => true) (tb3 20 10 0) := xRD rfl (by omega) (by omega) (by omega) (by omega) fun v hv hne => by
  rcases (show v = 0 ∨ v = 1 by omega) with rfl | rfl
  · exact ⟨1, 1, 10, by omega, ⟨by decide, rfl, rfl, rfl⟩, rfl⟩
  · exact ⟨2, 3, 10, by omega, ⟨by decide, rfl, rfl, rfl⟩, rfl⟩
theorem x00 : roadT 3 xL 0 0 = 0 := by rw [roadT_eq xRoad xRD0 (by omega)]; rfl
theorem x01 : roadT 3 xL 0 1 = 10 := by rw [roadT_eq xRoad xRD0 (by omega)]; rfl
theorem x02 : roadT 3 xL 0 2 = 20 := by rw [roadT_eq xRoad xRD0 (by omega)]; rfl
theorem x12 : roadT 3 xL 1 2 = 10 := by rw [roadT_eq xRoad xRD1 (by omega)]; rfl
theorem x20 : roadT 3 xL 2 0 = 20 := by rw [roadT_eq xRoad xRD2 (by omega)]; rfl
theorem xE01 : walkE 3 xL xT xN 1 0 [0, 1] = 0 := by
  rw [walkE, if_neg (by rw [xNight]; decide), if_neg (by decide)]
  simp [endT, goE, goT, goD, roadD, needAt, visitE, visitT, inB, startT, homeE, xN, xT, x01, x12, x20, absI]
theorem xE10 : walkE 3 xL xT xN 1 0 [1, 0] = 24 := by
  rw [walkE, if_neg (by rw [xNight]; decide), if_neg (by decide)]
  simp [goE, goD, roadD, needAt, visitE, inB, startT, xN, xT, x02]
theorem xE1 : walkE 3 xL xT xN 1 0 [1] = 24 := by
  rw [walkE, if_neg (by rw [xNight]; decide), if_neg (by decide)]
  simp [goE, goD, roadD, needAt, visitE, inB, startT, xN, xT, x02]
theorem xE : walkE 3 xL xT xN 1 0 [] = 0 := by
  rw [walkE, if_neg (by rw [xNight]; decide), if_neg (by decide)]
  simp [endT, goE, goT, goD, roadD, startT, homeE, xT, x00]
theorem perm1 {a : Int} {o : List Int} (h : o.Perm [a]) : o = [a] := List.perm_singleton.1 h
theorem perm2 {a b : Int} {o : List Int} (h : o.Perm [a, b]) : o = [a, b] ∨ o = [b, a] := by
  have hl := h.length_eq
  match o, hl, h with
  | [x, y], _, h =>
    have hx : x ∈ [a, b] := h.mem_iff.1 (by simp)
    simp at hx
    rcases hx with rfl | rfl
    · have := perm1 ((List.perm_cons x).1 h)
      simp at this; subst this; exact .inl rfl
    · have := perm1 ((List.perm_cons x).1 (h.trans (List.Perm.swap x a [])))
      simp at this; subst this; exact .inr rfl
theorem xAsk2 : askErr 3 xL xT xN 1 0 [1, 0] = 0 := by rw [askErr, if_neg (by rw [xNight]; decide)]; decide
theorem xAsk1 : askErr 3 xL xT xN 1 0 [1] = 0 := by rw [askErr, if_neg (by rw [xNight]; decide)]; decide
theorem xBest2 {er r0 : Int} {x : List Int} (h : BestAns 3 xL xT xN 1 0 [1, 0] er r0 x) : er = 0 ∧ r0 = 0 ∧ x = [0, 1] := by
  cases h with
  | no h => exact absurd xAsk2 h
  | empty _ hb => exact absurd ⟨List.Perm.swap 1 0 [], xE01⟩ (hb [0, 1])
  | ok _ x hb =>
    refine ⟨rfl, rfl, ?_⟩
    rcases perm2 hb.1.1 with h | h
    · have := hb.1.2; rw [h, xE10] at this; cases this
    · exact h
theorem xBest1 {er r0 : Int} {x : List Int} (h : BestAns 3 xL xT xN 1 0 [1] er r0 x) : er = 10 := by
  cases h with
  | no h => exact absurd xAsk1 h
  | empty _ hb => rfl
  | ok _ x hb => have := hb.1.2; rw [perm1 hb.1.1, xE1] at this; cases this
theorem xMost1 {er r0 : Int} {x : List Int} (h : MostAns 3 xL xT xN 1 0 [1] er r0 x) : er = 0 ∧ x = [] := by
  cases h with
  | no h => exact absurd xAsk1 h
  | ok _ s hb =>
    refine ⟨rfl, ?_⟩
    cases s with
    | none => rfl
    | some x =>
      obtain ⟨⟨h1, h2⟩, h3⟩ := hb.1
      cases x with
      | nil => rfl
      | cons a x =>
        exfalso
        have ha : a = 1 := by simpa using h2 a (by simp)
        have hx : x = [] := by
          cases x with
          | nil => rfl
          | cons b x =>
            have hb' : b = 1 := by simpa using h2 b (by simp)
            rw [ha, hb'] at h1; simp at h1
        rw [ha, hx, xE1] at h3; cases h3
theorem xMoved : movedE 3 xL xT xN 1 [0, 1] = 0 ∧ movedV 3 xL xT xN 1 [0, 1] = 8 := by
  have h : movedE 3 xL xT xN 1 [0, 1] = 0 := by rw [movedE, if_neg (by rw [xNight]; decide)]; decide
  exact ⟨h, by rw [movedV, if_pos h]; decide⟩
end Go.Proofs.Ytfddebpeiilohaa

/-
  Walks: the reference's truck, need, twice.
-/
set_option linter.all false
namespace Go.Proofs.Ytfddebpeiilohaa
open Go Go.W Go.RowKit

def truckErr1 (n : Int) (t : Truck) : Int := if truckBad n t = true then 7 else if truckRange t = true then 1 else 0
def needErr1 (n : Int) (x : Need) : Int := if needBad n x = true then 7 else if needRange x = true then 1 else 0

theorem r42Truck (n hd : Int) (A B C : Option Addr) (ll tl nl ca cb cc : Nat) (t : Truck) (w0 : World) :
    Calls Try.prog 54 #[.agg #[I n, .slice A ll ca, .slice B tl cb, .slice C nl cc, I hd], .agg #[I t.depot, I t.cap, I t.from_, I t.to_]] w0 fun e w' => e = .returned (I (truckErr1 n t)) ∧ Below w0.heap.size w0 w' := by
  have H := SH.refl w0
  refine Calls.ofWP Try.func54 rfl Try.results54 Try.ntmps54 rfl ?_
  refine WP.seq ?_
  refine WP.region ?_
  refine OPS.box rfl rfl rfl rfl (cA rfl) H ?_
  clear H; intro g2 w H
  refine OPS.box rfl rfl rfl rfl (cA rfl) H ?_
  clear H; intro g3 w H
  refine OPS.val rfl rfl rfl (Ev.asI rfl) ?_
  refine OPS.nil ?_
  refine WP.seq ?_
  refine WP.seq ?_
  refine WP.region ?_
  refine OPS.val rfl rfl rfl (Ev.fieldAddr (fld_run rfl) rfl) ?_
  refine OPS.val rfl rfl rfl ((by exact Ev.loadN [_, _] (agg_run rfl) (size_run rfl) rfl ⟨H.ldL 1 rfl _ rfl, H.ldL 1 rfl _ rfl, trivial⟩)) ?_
  refine OPS.val rfl rfl rfl (Ev.fieldAddr (fld_run rfl) rfl) ?_
  refine OPS.val rfl rfl rfl (Ev.load1 (agg_run rfl) rfl (by exact H.ldL 0 rfl _ rfl)) ?_
  refine OPS.call (d := some 9) rfl rfl rfl (EvC.func (fun_run rfl)) (r8Node n t.depot _ _ _ _) ?_
  rintro _ w ⟨rfl, hb⟩
  refine ⟨_, rfl, ?_⟩
  replace H := H.toBelow hb; clear hb
  refine OPS.val rfl rfl rfl (Ev.not rfl) ?_
  refine OPS.nil ?_
  refine WP.cond rfl (fun hc1 => ?_) (fun hc1 => ?_)
  · refine WP.seq ?_
    refine WP.region ?_
    refine OPS.val rfl rfl rfl (Ev.asI rfl) ?_
    refine OPS.nil ?_
    refine WP.ret ⟨_, rfl, ?_⟩
    have h : truckBad n t = true := by
      simp [isNode] at hc1
      simp [truckBad, inB]
      omega
    exact ⟨by rw [truckErr1, if_pos h]; rfl, H.below⟩
  have h : truckBad n t = false := by
    simp [isNode] at hc1
    simp [truckBad, inB]
    omega
  refine WP.skip ?_
  refine WP.seq ?_
  refine WP.seq ?_
  refine WP.region ?_
  refine OPS.val rfl rfl rfl (Ev.fieldAddr (fld_run rfl) rfl) ?_
  refine OPS.val rfl rfl rfl (Ev.load1 (agg_run rfl) rfl (by exact H.ldL 0 rfl _ rfl)) ?_
  refine OPS.val rfl rfl rfl (Ev.lss rfl rfl) ?_
  refine OPS.val rfl rfl rfl (Ev.mvB rfl) ?_
  refine OPS.gval rfl rfl rfl rfl rfl (fun hg => Ev.fieldAddr (fld_run rfl) (by rfl)) ?_
  refine OPS.gval rfl rfl rfl rfl rfl (fun hg => Ev.load1 (agg_run rfl) (by exact gvE hg rfl) (by exact H.ldL 0 rfl _ rfl)) ?_
  refine OPS.gval rfl rfl rfl rfl rfl (fun hg => Ev.gtr (by exact gvE hg rfl) (by rfl)) ?_
  refine OPS.val rfl rfl rfl ((by exact Ev.pickOr rfl rfl rfl)) ?_
  refine OPS.val rfl rfl rfl (Ev.mvB rfl) ?_
  refine OPS.gval rfl rfl rfl rfl rfl (fun hg => Ev.fieldAddr (fld_run rfl) (by rfl)) ?_
  refine OPS.gval rfl rfl rfl rfl rfl (fun hg => Ev.fieldAddr (fld_run rfl) (by exact gvE hg rfl)) ?_
  refine OPS.gval rfl rfl rfl rfl rfl (fun hg => Ev.load1 (agg_run rfl) (by exact gvE hg rfl) (by exact H.ldL 0 rfl _ rfl)) ?_
  refine OPS.gval rfl rfl rfl rfl rfl (fun hg => Ev.lss (by exact gvE hg rfl) (by rfl)) ?_
  refine OPS.val rfl rfl rfl ((by exact Ev.pickOr rfl rfl rfl)) ?_
  refine OPS.val rfl rfl rfl (Ev.mvB rfl) ?_
  refine OPS.gval rfl rfl rfl rfl rfl (fun hg => Ev.fieldAddr (fld_run rfl) (by rfl)) ?_
  refine OPS.gval rfl rfl rfl rfl rfl (fun hg => Ev.fieldAddr (fld_run rfl) (by exact gvE hg rfl)) ?_
  refine OPS.gval rfl rfl rfl rfl rfl (fun hg => Ev.load1 (agg_run rfl) (by exact gvE hg rfl) (by exact H.ldL 0 rfl _ rfl)) ?_
  refine OPS.gval rfl rfl rfl rfl rfl (fun hg => Ev.fieldAddr (fld_run rfl) (by rfl)) ?_
  refine OPS.gval rfl rfl rfl rfl rfl (fun hg => Ev.fieldAddr (fld_run rfl) (by exact gvE hg rfl)) ?_
  refine OPS.gval rfl rfl rfl rfl rfl (fun hg => Ev.load1 (agg_run rfl) (by exact gvE hg rfl) (by exact H.ldL 0 rfl _ rfl)) ?_
  refine OPS.gval rfl rfl rfl rfl rfl (fun hg => Ev.lss (by exact gvE hg rfl) (by exact gvE hg rfl)) ?_
  refine OPS.val rfl rfl rfl ((by exact Ev.pickOr rfl rfl rfl)) ?_
  refine OPS.val rfl rfl rfl (Ev.mvB rfl) ?_
  refine OPS.gval rfl rfl rfl rfl rfl (fun hg => Ev.fieldAddr (fld_run rfl) (by rfl)) ?_
  refine OPS.gval rfl rfl rfl rfl rfl (fun hg => Ev.fieldAddr (fld_run rfl) (by exact gvE hg rfl)) ?_
  refine OPS.gval rfl rfl rfl rfl rfl (fun hg => Ev.load1 (agg_run rfl) (by exact gvE hg rfl) (by exact H.ldL 0 rfl _ rfl)) ?_
  refine OPS.gval rfl rfl rfl rfl rfl (fun hg => Ev.gtr (by exact gvE hg rfl) (by rfl)) ?_
  refine OPS.val rfl rfl rfl ((by exact Ev.pickOr rfl rfl rfl)) ?_
  refine OPS.nil ?_
  refine WP.cond rfl (fun hc3 => ?_) (fun hc3 => ?_)
  · refine WP.seq ?_
    refine WP.region ?_
    refine OPS.val rfl rfl rfl (Ev.asI rfl) ?_
    refine OPS.nil ?_
    refine WP.ret ⟨_, rfl, ?_⟩
    have h2 : truckRange t = true := by
      simp at hc3
      simp [truckRange, inB]
      omega
    exact ⟨by rw [truckErr1, if_neg (by simp [h]), if_pos h2]; rfl, H.below⟩
  refine WP.skip ?_
  refine WP.seq ?_
  refine WP.region ?_
  refine OPS.val rfl rfl rfl (Ev.asI rfl) ?_
  refine OPS.nil ?_
  refine WP.ret ⟨_, rfl, ?_⟩
  have h2 : truckRange t = false := by
    simp at hc3
    simp [truckRange, inB]
    omega
  exact ⟨by rw [truckErr1, if_neg (by simp [h]), if_neg (by simp [h2])]; rfl, H.below⟩
theorem r42Need (n hd : Int) (A B C : Option Addr) (ll tl nl ca cb cc : Nat) (x : Need) (w0 : World) :
    Calls Try.prog 55 #[.agg #[I n, .slice A ll ca, .slice B tl cb, .slice C nl cc, I hd], .agg #[I x.node, I x.move]] w0 fun e w' => e = .returned (I (needErr1 n x)) ∧ Below w0.heap.size w0 w' := by
  have H := SH.refl w0
  refine Calls.ofWP Try.func55 rfl Try.results55 Try.ntmps55 rfl ?_
  refine WP.seq ?_
  refine WP.region ?_
  refine OPS.box rfl rfl rfl rfl (cA rfl) H ?_
  clear H; intro g2 w H
  refine OPS.box rfl rfl rfl rfl (cA rfl) H ?_
  clear H; intro g3 w H
  refine OPS.val rfl rfl rfl (Ev.asI rfl) ?_
  refine OPS.nil ?_
  refine WP.seq ?_
  refine WP.seq ?_
  refine WP.region ?_
  refine OPS.val rfl rfl rfl (Ev.fieldAddr (fld_run rfl) rfl) ?_
  refine OPS.val rfl rfl rfl ((by exact Ev.loadN [_, _] (agg_run rfl) (size_run rfl) rfl ⟨H.ldL 1 rfl _ rfl, H.ldL 1 rfl _ rfl, trivial⟩)) ?_
  refine OPS.val rfl rfl rfl (Ev.fieldAddr (fld_run rfl) rfl) ?_
  refine OPS.val rfl rfl rfl (Ev.load1 (agg_run rfl) rfl (by exact H.ldL 0 rfl _ rfl)) ?_
  refine OPS.call (d := some 9) rfl rfl rfl (EvC.func (fun_run rfl)) (r8Node n x.node _ _ _ _) ?_
  rintro _ w ⟨rfl, hb⟩
  refine ⟨_, rfl, ?_⟩
  replace H := H.toBelow hb; clear hb
  refine OPS.val rfl rfl rfl (Ev.not rfl) ?_
  refine OPS.nil ?_
  refine WP.cond rfl (fun hc1 => ?_) (fun hc1 => ?_)
  · refine WP.seq ?_
    refine WP.region ?_
    refine OPS.val rfl rfl rfl (Ev.asI rfl) ?_
    refine OPS.nil ?_
    refine WP.ret ⟨_, rfl, ?_⟩
    have h : needBad n x = true := by
      simp [isNode] at hc1
      simp [needBad, inB]
      omega
    exact ⟨by rw [needErr1, if_pos h]; rfl, H.below⟩
  have h : needBad n x = false := by
    simp [isNode] at hc1
    simp [needBad, inB]
    omega
  refine WP.skip ?_
  refine WP.seq ?_
  refine WP.seq ?_
  refine WP.region ?_
  refine OPS.val rfl rfl rfl (Ev.fieldAddr (fld_run rfl) rfl) ?_
  refine OPS.val rfl rfl rfl (Ev.load1 (agg_run rfl) rfl (by exact H.ldL 0 rfl _ rfl)) ?_
  refine OPS.val rfl rfl rfl (Ev.eql rfl rfl) ?_
  refine OPS.val rfl rfl rfl (Ev.mvB rfl) ?_
  refine OPS.gval rfl rfl rfl rfl rfl (fun hg => Ev.fieldAddr (fld_run rfl) (by rfl)) ?_
  refine OPS.gval rfl rfl rfl rfl rfl (fun hg => Ev.load1 (agg_run rfl) (by exact gvE hg rfl) (by exact H.ldL 0 rfl _ rfl)) ?_
  refine OPS.gval rfl rfl rfl rfl rfl (fun hg => Ev.lss (by exact gvE hg rfl) (by rfl)) ?_
  refine OPS.val rfl rfl rfl ((by exact Ev.pickOr rfl rfl rfl)) ?_
  refine OPS.val rfl rfl rfl (Ev.mvB rfl) ?_
  refine OPS.gval rfl rfl rfl rfl rfl (fun hg => Ev.fieldAddr (fld_run rfl) (by rfl)) ?_
  refine OPS.gval rfl rfl rfl rfl rfl (fun hg => Ev.load1 (agg_run rfl) (by exact gvE hg rfl) (by exact H.ldL 0 rfl _ rfl)) ?_
  refine OPS.gval rfl rfl rfl rfl rfl (fun hg => Ev.gtr (by exact gvE hg rfl) (by rfl)) ?_
  refine OPS.val rfl rfl rfl ((by exact Ev.pickOr rfl rfl rfl)) ?_
  refine OPS.nil ?_
  refine WP.cond rfl (fun hc3 => ?_) (fun hc3 => ?_)
  · refine WP.seq ?_
    refine WP.region ?_
    refine OPS.val rfl rfl rfl (Ev.asI rfl) ?_
    refine OPS.nil ?_
    refine WP.ret ⟨_, rfl, ?_⟩
    have h2 : needRange x = true := by
      simp at hc3
      simp [needRange, inB]
      omega
    exact ⟨by rw [needErr1, if_neg (by simp [h]), if_pos h2]; rfl, H.below⟩
  refine WP.skip ?_
  refine WP.seq ?_
  refine WP.region ?_
  refine OPS.val rfl rfl rfl (Ev.asI rfl) ?_
  refine OPS.nil ?_
  refine WP.ret ⟨_, rfl, ?_⟩
  have h2 : needRange x = false := by
    simp at hc3
    simp [needRange, inB]
    omega
  exact ⟨by rw [needErr1, if_neg (by simp [h]), if_neg (by simp [h2])]; rfl, H.below⟩
end Go.Proofs.Ytfddebpeiilohaa

/-
  Walks: the reference's Check.
-/
set_option linter.all false
namespace Go.Proofs.Ytfddebpeiilohaa
open Go Go.W Go.RowKit

theorem truckErr1_0 {n : Int} {t : Truck} (h : truckErr1 n t = 0) : truckBad n t = false ∧ truckRange t = false := by
  unfold truckErr1 at h
  split at h
  · cases h
  · split at h
    · cases h
    · rename_i h1 h2; exact ⟨by simpa using h1, by simpa using h2⟩
theorem needErr1_0 {n : Int} {t : Need} (h : needErr1 n t = 0) : needBad n t = false ∧ needRange t = false := by
  unfold needErr1 at h
  split at h
  · cases h
  · split at h
    · cases h
    · rename_i h1 h2; exact ⟨by simpa using h1, by simpa using h2⟩
theorem trucksErr_at {n : Int} {l : List Truck} {j : Nat} (hj : j < l.length) (h : ∀ i (hi : i < l.length), i < j → truckBad n l[i] = false ∧ truckRange l[i] = false) (he : truckErr1 n l[j] ≠ 0) : trucksErr n l = truckErr1 n l[j] := by
  rw [trucksErr_drop (by omega) h, List.drop_eq_getElem_cons hj, trucksErr]
  unfold truckErr1 at he ⊢
  split
  · rfl
  · rename_i h1
    rw [if_neg h1] at he
    split
    · rfl
    · rename_i h2; rw [if_neg h2] at he; exact absurd rfl he
theorem needsErr_at {n : Int} {l : List Need} {j : Nat} (hj : j < l.length) (h : ∀ i (hi : i < l.length), i < j → needBad n l[i] = false ∧ needRange l[i] = false) (he : needErr1 n l[j] ≠ 0) : needsErr n l = needErr1 n l[j] := by
  rw [needsErr_drop (by omega) h, List.drop_eq_getElem_cons hj, needsErr]
  unfold needErr1 at he ⊢
  split
  · rfl
  · rename_i h1
    rw [if_neg h1] at he
    split
    · rfl
    · rename_i h2; rw [if_neg h2] at he; exact absurd rfl he

set_option maxHeartbeats 1000000 in
theorem r42Check (n hd : Int) (A B C : Option Addr) (l : List Edg) (ts : List Truck) (ns : List Need) (ca cb cc : Nat) (w0 : World) (hz : EdgsAt w0 A l) (ht : RowsAt 4 truckCells w0 B ts) (hn : RowsAt 2 needCells w0 C ns) :
    Calls Try.prog 31 #[.agg #[I n, .slice A l.length ca, .slice B ts.length cb, .slice C ns.length cc, I hd]] w0 fun e w' => e = .returned (I (nightErr n l ts ns hd)) ∧ Below w0.heap.size w0 w' := by
  have H := SH.refl w0
  refine Calls.ofWP Try.func31 rfl Try.results31 Try.ntmps31 rfl ?_
  refine WP.seq ?_
  refine WP.region ?_
  refine OPS.box rfl rfl rfl rfl (cA rfl) H ?_
  clear H; intro g1 w H
  refine OPS.val rfl rfl rfl (Ev.asI rfl) ?_
  refine OPS.nil ?_
  refine WP.seq ?_
  refine WP.seq ?_
  refine WP.region ?_
  refine OPS.val rfl rfl rfl (Ev.fieldAddr (fld_run rfl) rfl) ?_
  refine OPS.val rfl rfl rfl ((by exact Ev.loadN [_, _] (agg_run rfl) (size_run rfl) rfl ⟨H.ldL 0 rfl _ rfl, H.ldL 0 rfl _ rfl, trivial⟩)) ?_
  refine OPS.call (d := some 12) rfl rfl rfl (EvC.func (fun_run rfl)) (r8Check n A l ca w (hz.sh H)) ?_
  rintro _ w ⟨rfl, hb⟩
  refine ⟨_, rfl, ?_⟩
  replace H := H.toBelow hb; clear hb
  refine OPS.val rfl rfl rfl (Ev.asI rfl) ?_
  refine OPS.nil ?_
  refine WP.seq ?_
  refine WP.region ?_
  refine OPS.val rfl rfl rfl (Ev.mvI rfl) ?_
  refine OPS.val rfl rfl rfl (Ev.neq rfl rfl) ?_
  refine OPS.nil ?_
  refine WP.cond rfl (fun hc2 => ?_) (fun hc2 => ?_)
  · refine WP.seq ?_
    refine WP.region ?_
    refine OPS.val rfl rfl rfl (Ev.mvI rfl) ?_
    refine OPS.val rfl rfl rfl (Ev.asI rfl) ?_
    refine OPS.nil ?_
    refine WP.ret ⟨_, rfl, ?_⟩
    have h : roadErr n l ≠ 0 := by simpa using hc2
    exact ⟨by rw [nightErr, if_pos h]; rfl, H.below⟩
  have h0 : roadErr n l = 0 := by simpa using hc2
  refine WP.skip ?_
  refine WP.seq ?_
  refine WP.seq ?_
  refine WP.region ?_
  refine OPS.val rfl rfl rfl (Ev.fieldAddr (fld_run rfl) rfl) ?_
  refine OPS.val rfl rfl rfl (Ev.load1 (agg_run rfl) rfl (by exact H.ldL 0 rfl _ rfl)) ?_
  refine OPS.val rfl rfl rfl (Ev.len (el_run rfl) rfl) ?_
  refine OPS.val rfl rfl rfl (Ev.gtr rfl rfl) ?_
  refine OPS.val rfl rfl rfl (Ev.mvB rfl) ?_
  refine OPS.gval rfl rfl rfl rfl rfl (fun hg => Ev.fieldAddr (fld_run rfl) (by rfl)) ?_
  refine OPS.gval rfl rfl rfl rfl rfl (fun hg => Ev.load1 (agg_run rfl) (by exact gvE hg rfl) (by exact H.ldL 0 rfl _ rfl)) ?_
  refine OPS.gval rfl rfl rfl rfl rfl (fun hg => Ev.len (el_run rfl) (by exact gvE hg rfl)) ?_
  refine OPS.gval rfl rfl rfl rfl rfl (fun hg => Ev.gtr (by exact gvE hg rfl) (by rfl)) ?_
  refine OPS.val rfl rfl rfl ((by exact Ev.pickOr rfl rfl rfl)) ?_
  refine OPS.nil ?_
  refine WP.cond rfl (fun hc4 => ?_) (fun hc4 => ?_)
  · refine WP.seq ?_
    refine WP.region ?_
    refine OPS.val rfl rfl rfl (Ev.asI rfl) ?_
    refine OPS.nil ?_
    refine WP.ret ⟨_, rfl, ?_⟩
    exact ⟨by rw [nightErr, if_neg (by simp [h0]), if_pos (show fullB ts ns = true by simpa [fullB] using hc4)]; rfl, H.below⟩
  have hfu : fullB ts ns = false := by simpa [fullB] using hc4
  have hlt8 : ts.length ≤ 8 ∧ ns.length ≤ 16 := by simp at hc4; omega
  have e0 : nightErr n l ts ns hd = if trucksErr n ts ≠ 0 then trucksErr n ts else if needsErr n ns ≠ 0 then needsErr n ns else if needTwice ns = true then 6 else if inB hd 0 3600 = true then 0 else 1 := by rw [nightErr, if_neg (by simp [h0]), if_neg (by simp [hfu])]
  refine WP.skip ?_
  refine WP.seq ?_
  refine WP.seq ?_
  refine WP.region ?_
  refine OPS.val rfl rfl rfl (Ev.asI rfl) ?_
  refine OPS.nil ?_
  refine WP.block ?_
  refine WP.loop [2, 4, 5, 26, 27, 28, 29, 30, 31, 32, 33, 34, 35, 36, 37, 38, 39, 40, 41, 42] (fun k e w' => ∃ j : Nat, j + k = ts.length ∧ e 4 = I j ∧ SH w0 [] w' [⟨g1, 28, [I n, .slice A l.length ca, .slice B ts.length cb, .slice C ns.length cc, I hd]⟩] ∧ ∀ i (hi : i < ts.length), i < j → truckBad n ts[i] = false ∧ truckRange ts[i] = false) (ts.length) (⟨0, by omega, rfl, H, fun i _ hi => absurd hi (by omega)⟩) ?_
  clear H
  rintro k u w ⟨j, hk, h4', H, hall⟩
  refine WP.know (t := 4) h4' ?_
  refine WP.seq ?_
  refine WP.seq ?_
  refine WP.region ?_
  refine OPS.val rfl rfl rfl (Ev.mvI rfl) ?_
  refine OPS.val rfl rfl rfl (Ev.fieldAddr (fld_run rfl) rfl) ?_
  refine OPS.val rfl rfl rfl (Ev.load1 (agg_run rfl) rfl (by exact H.ldL 0 rfl _ rfl)) ?_
  refine OPS.val rfl rfl rfl (Ev.len (el_run rfl) rfl) ?_
  refine OPS.val rfl rfl rfl (Ev.lss rfl rfl) ?_
  refine OPS.nil ?_
  refine WP.cond rfl (fun hc7 => ?_) (fun hc7 => ?_)
  · have hlt : j < ts.length := by simpa using hc7
    obtain ⟨b, o, rfl, hc⟩ := ht j hlt
    refine WP.skip ?_
    refine WP.seq ?_
    refine WP.block ?_
    refine WP.seq ?_
    refine WP.rquiet mixed (by kernel_rfl) H ?_
    clear H; intro w hbw9 H
    refine OPS.val rfl rfl rfl ((by exact Ev.loadO 0 H rfl (agg_run rfl) (size_run rfl) (by rfl) rfl)) ?_
    refine OPS.val rfl rfl rfl (Ev.fieldAddr (fld_run rfl) rfl) ?_
    refine OPS.val rfl rfl rfl (Ev.load1 (agg_run rfl) rfl (by exact H.ldL 0 rfl _ rfl)) ?_
    refine OPS.val rfl rfl rfl (Ev.mvI rfl) ?_
    refine OPS.val rfl rfl rfl ((by exact Ev.indexAddr (el_run rfl) (size_run rfl) rfl rfl rfl (by omega))) ?_
    have hc' := cellsAt_sh H hc
    refine OPS.val rfl rfl rfl ((by (change Ev _ _ _ _ (Op.load 54 (Operand.tmp 37)) _; exact Ev.loadN (truckCells ts[j]) (agg_run rfl) (size_run rfl) rfl hc'))) ?_
    refine OPS.callq rfl rfl rfl (EvC.conv (EvC.func (fun_run rfl)) (l2 rfl rfl)) (v := I (truckErr1 n ts[j])) (fun w2 hb2 => r42Truck n hd A (some ⟨b, o, none⟩) C l.length ts.length ns.length ca cb cc ts[j] w2) ?_
    refine OPS.val rfl rfl rfl (Ev.asI rfl) ?_
    refine OPS.nilq H ?_
    clear H; intro w hbx9 H
    refine WP.seq ?_
    refine WP.region ?_
    refine OPS.val rfl rfl rfl (Ev.mvI rfl) ?_
    refine OPS.val rfl rfl rfl (Ev.neq rfl rfl) ?_
    refine OPS.nil ?_
    refine WP.cond rfl (fun hc10 => ?_) (fun hc10 => ?_)
    · refine WP.seq ?_
      refine WP.region ?_
      refine OPS.val rfl rfl rfl (Ev.mvI rfl) ?_
      refine OPS.val rfl rfl rfl (Ev.asI rfl) ?_
      refine OPS.nil ?_
      refine WP.ret ⟨_, rfl, ?_⟩
      have hne : truckErr1 n ts[j] ≠ 0 := by simpa using hc10
      have he := trucksErr_at hlt hall hne
      exact ⟨by rw [e0, if_pos (by rw [he]; exact hne), he]; rfl, H.below⟩
    refine WP.skip ?_
    refine WP.region ?_
    refine OPS.val rfl rfl rfl (Ev.mvI rfl) ?_
    refine OPS.val rfl rfl rfl (Ev.add rfl rfl (by unfold fits; omega)) ?_
    refine OPS.val rfl rfl rfl (Ev.asI rfl) ?_
    refine OPS.nil ?_
    refine ⟨(by repeat (first | exact Agree.refl _ _ | exact Agree.mix _ _ _ | refine Agree.upd rfl ?_ | refine Agree.mix2 rfl ?_)), k - 1, by omega, j + 1, by omega, rfl, H, fun i hi hij => ?_⟩
    rcases Nat.lt_succ_iff_lt_or_eq.1 hij with h | rfl
    · exact hall i hi h
    · exact truckErr1_0 (by simpa using hc10)
  have hj : j = ts.length := by simp at hc7; omega
  subst hj
  have ht0 : trucksErr n ts = 0 := by rw [trucksErr_drop (by omega) hall]; simp [trucksErr]
  clear hall
  refine WP.exit ?_
  refine XB.hit ?_
  refine WP.seq ?_
  refine WP.seq ?_
  refine WP.region ?_
  refine OPS.val rfl rfl rfl (Ev.asI rfl) ?_
  refine OPS.nil ?_
  refine WP.block ?_
  refine WP.loop [2, 6, 7, 43, 44, 45, 46, 47, 48, 49, 50, 51, 52, 53, 54, 55, 56, 57, 58, 59] (fun k e w' => ∃ j : Nat, j + k = ns.length ∧ e 6 = I j ∧ SH w0 [] w' [⟨g1, 28, [I n, .slice A l.length ca, .slice B ts.length cb, .slice C ns.length cc, I hd]⟩] ∧ ∀ i (hi : i < ns.length), i < j → needBad n ns[i] = false ∧ needRange ns[i] = false) (ns.length) (⟨0, by omega, rfl, H, fun i _ hi => absurd hi (by omega)⟩) ?_
  clear H
  rintro k u w ⟨j, hk, h6', H, hall⟩
  refine WP.know (t := 6) h6' ?_
  refine WP.seq ?_
  refine WP.seq ?_
  refine WP.region ?_
  refine OPS.val rfl rfl rfl (Ev.mvI rfl) ?_
  refine OPS.val rfl rfl rfl (Ev.fieldAddr (fld_run rfl) rfl) ?_
  refine OPS.val rfl rfl rfl (Ev.load1 (agg_run rfl) rfl (by exact H.ldL 0 rfl _ rfl)) ?_
  refine OPS.val rfl rfl rfl (Ev.len (el_run rfl) rfl) ?_
  refine OPS.val rfl rfl rfl (Ev.lss rfl rfl) ?_
  refine OPS.nil ?_
  refine WP.cond rfl (fun hc13 => ?_) (fun hc13 => ?_)
  · have hlt : j < ns.length := by simpa using hc13
    obtain ⟨b, o, rfl, hc⟩ := hn j hlt
    refine WP.skip ?_
    refine WP.seq ?_
    refine WP.block ?_
    refine WP.seq ?_
    refine WP.rquiet mixed (by kernel_rfl) H ?_
    clear H; intro w hbw15 H
    refine OPS.val rfl rfl rfl ((by exact Ev.loadO 0 H rfl (agg_run rfl) (size_run rfl) (by rfl) rfl)) ?_
    refine OPS.val rfl rfl rfl (Ev.fieldAddr (fld_run rfl) rfl) ?_
    refine OPS.val rfl rfl rfl (Ev.load1 (agg_run rfl) rfl (by exact H.ldL 0 rfl _ rfl)) ?_
    refine OPS.val rfl rfl rfl (Ev.mvI rfl) ?_
    refine OPS.val rfl rfl rfl ((by exact Ev.indexAddr (el_run rfl) (size_run rfl) rfl rfl rfl (by omega))) ?_
    have hc' := cellsAt_sh H hc
    refine OPS.val rfl rfl rfl ((by (change Ev _ _ _ _ (Op.load 64 (Operand.tmp 54)) _; exact Ev.loadN (needCells ns[j]) (agg_run rfl) (size_run rfl) rfl hc'))) ?_
    refine OPS.callq rfl rfl rfl (EvC.conv (EvC.func (fun_run rfl)) (l2 rfl rfl)) (v := I (needErr1 n ns[j])) (fun w2 hb2 => r42Need n hd A B (some ⟨b, o, none⟩) l.length ts.length ns.length ca cb cc ns[j] w2) ?_
    refine OPS.val rfl rfl rfl (Ev.asI rfl) ?_
    refine OPS.nilq H ?_
    clear H; intro w hbx15 H
    refine WP.seq ?_
    refine WP.region ?_
    refine OPS.val rfl rfl rfl (Ev.mvI rfl) ?_
    refine OPS.val rfl rfl rfl (Ev.neq rfl rfl) ?_
    refine OPS.nil ?_
    refine WP.cond rfl (fun hc16 => ?_) (fun hc16 => ?_)
    · refine WP.seq ?_
      refine WP.region ?_
      refine OPS.val rfl rfl rfl (Ev.mvI rfl) ?_
      refine OPS.val rfl rfl rfl (Ev.asI rfl) ?_
      refine OPS.nil ?_
      refine WP.ret ⟨_, rfl, ?_⟩
      have hne : needErr1 n ns[j] ≠ 0 := by simpa using hc16
      have he := needsErr_at hlt hall hne
      exact ⟨by rw [e0, if_neg (by rw [ht0]; simp), if_pos (by rw [he]; exact hne), he]; rfl, H.below⟩
    refine WP.skip ?_
    refine WP.region ?_
    refine OPS.val rfl rfl rfl (Ev.mvI rfl) ?_
    refine OPS.val rfl rfl rfl (Ev.add rfl rfl (by unfold fits; omega)) ?_
    refine OPS.val rfl rfl rfl (Ev.asI rfl) ?_
    refine OPS.nil ?_
    refine ⟨(by repeat (first | exact Agree.refl _ _ | exact Agree.mix _ _ _ | refine Agree.upd rfl ?_ | refine Agree.mix2 rfl ?_)), k - 1, by omega, j + 1, by omega, rfl, H, fun i hi hij => ?_⟩
    rcases Nat.lt_succ_iff_lt_or_eq.1 hij with h | rfl
    · exact hall i hi h
    · exact needErr1_0 (by simpa using hc16)
  have hj : j = ns.length := by simp at hc13; omega
  subst hj
  have hn0 : needsErr n ns = 0 := by rw [needsErr_drop (by omega) hall]; simp [needsErr]
  clear hall
  refine WP.exit ?_
  refine XB.hit ?_
  refine WP.seq ?_
  refine WP.seq ?_
  refine WP.region ?_
  refine OPS.val rfl rfl rfl (Ev.asI rfl) ?_
  refine OPS.nil ?_
  refine WP.block ?_
  refine WP.loop [2, 8, 9, 60, 61, 62, 63, 64, 65, 66, 67, 68, 69, 70, 71, 72, 73, 74, 75, 76, 77, 78, 79, 80, 81, 82, 83, 84] (fun k e w' => ∃ j : Nat, j + k = ns.length ∧ e 8 = I j ∧ SH w0 [] w' [⟨g1, 28, [I n, .slice A l.length ca, .slice B ts.length cb, .slice C ns.length cc, I hd]⟩] ∧ ((ns.map (·.node)).take j).Nodup) (ns.length) (⟨0, by omega, rfl, H, by simp⟩) ?_
  clear H
  rintro k u w ⟨j, hk, h8', H, hall⟩
  refine WP.know (t := 8) h8' ?_
  refine WP.seq ?_
  refine WP.seq ?_
  refine WP.region ?_
  refine OPS.val rfl rfl rfl (Ev.mvI rfl) ?_
  refine OPS.val rfl rfl rfl (Ev.fieldAddr (fld_run rfl) rfl) ?_
  refine OPS.val rfl rfl rfl (Ev.load1 (agg_run rfl) rfl (by exact H.ldL 0 rfl _ rfl)) ?_
  refine OPS.val rfl rfl rfl (Ev.len (el_run rfl) rfl) ?_
  refine OPS.val rfl rfl rfl (Ev.lss rfl rfl) ?_
  refine OPS.nil ?_
  refine WP.cond rfl (fun hc19 => ?_) (fun hc19 => ?_)
  · have hlt : j < ns.length := by simpa using hc19
    obtain ⟨b, o, rfl, hc⟩ := hn j hlt
    have hcj : w0.cell? ⟨b, o + j * 2, none⟩ = some (I ns[j].node) := hc.1
    have hmj : j < (ns.map (·.node)).length := by simpa using hlt
    have hnt := nodup_take_succ (l := ns.map (·.node)) hmj
    refine WP.skip ?_
    refine WP.seq ?_
    refine WP.block ?_
    refine WP.seq ?_
    refine WP.region ?_
    refine OPS.val rfl rfl rfl (Ev.asI rfl) ?_
    refine OPS.nil ?_
    refine WP.block ?_
    refine WP.loop [2, 9, 67, 68, 69, 70, 71, 72, 73, 74, 75, 76, 77, 78, 79, 80, 81, 82, 83, 84] (fun k2 e w' => ∃ i : Nat, i + k2 = j ∧ e 9 = I i ∧ SH w0 [] w' [⟨g1, 28, [I n, .slice A l.length ca, .slice B ts.length cb, .slice (some ⟨b, o, none⟩) ns.length cc, I hd]⟩] ∧ (ns.map (·.node))[j] ∉ (ns.map (·.node)).take i) (j) (⟨0, by omega, rfl, H, by simp⟩) ?_
    clear H
    rintro k2 u2 w ⟨i, hk2, h9', H, hno⟩
    refine WP.know (t := 9) h9' ?_
    refine WP.seq ?_
    refine WP.seq ?_
    refine WP.region ?_
    refine OPS.val rfl rfl rfl (Ev.mvI rfl) ?_
    refine OPS.val rfl rfl rfl (Ev.mvI rfl) ?_
    refine OPS.val rfl rfl rfl (Ev.lss rfl rfl) ?_
    refine OPS.nil ?_
    refine WP.cond rfl (fun hc22 => ?_) (fun hc22 => ?_)
    · have hij : i < j := by simpa using hc22
      have hil : i < ns.length := by omega
      have hmi : i < (ns.map (·.node)).length := by simpa using hil
      have hci : w0.cell? ⟨b, o + i * 2, none⟩ = some (I ns[i].node) := by
        obtain ⟨b', o', he, hx⟩ := hn i hil
        cases he; exact hx.1
      refine WP.skip ?_
      refine WP.seq ?_
      refine WP.block ?_
      refine WP.seq ?_
      refine WP.rstill mixed (by kernel_rfl) H ?_
      clear H; intro w hbw24 H
      refine OPS.val rfl rfl rfl (Ev.fieldAddr (fld_run rfl) rfl) ?_
      refine OPS.val rfl rfl rfl (Ev.load1 (agg_run rfl) rfl (by exact H.ldL 0 rfl _ rfl)) ?_
      refine OPS.val rfl rfl rfl (Ev.mvI rfl) ?_
      refine OPS.val rfl rfl rfl ((by exact Ev.indexAddr (el_run rfl) (size_run rfl) rfl rfl rfl (by omega))) ?_
      refine OPS.val rfl rfl rfl (Ev.fieldAddr (fld_run rfl) rfl) ?_
      refine OPS.val rfl rfl rfl (Ev.load1 (agg_run rfl) rfl (by exact H.ld0 (by assumption))) ?_
      refine OPS.val rfl rfl rfl (Ev.fieldAddr (fld_run rfl) rfl) ?_
      refine OPS.val rfl rfl rfl (Ev.load1 (agg_run rfl) rfl (by exact H.ldL 0 rfl _ rfl)) ?_
      refine OPS.val rfl rfl rfl (Ev.mvI rfl) ?_
      refine OPS.val rfl rfl rfl ((by exact Ev.indexAddr (el_run rfl) (size_run rfl) rfl rfl rfl (by omega))) ?_
      refine OPS.val rfl rfl rfl (Ev.fieldAddr (fld_run rfl) rfl) ?_
      refine OPS.val rfl rfl rfl (Ev.load1 (agg_run rfl) rfl (by exact H.ld0 (by assumption))) ?_
      refine OPS.val rfl rfl rfl (Ev.eql rfl rfl) ?_
      refine OPS.nil_s ?_
      refine WP.cond rfl (fun hc24 => ?_) (fun hc24 => ?_)
      · refine WP.seq ?_
        refine WP.region ?_
        refine OPS.val rfl rfl rfl (Ev.asI rfl) ?_
        refine OPS.nil ?_
        refine WP.ret ⟨_, rfl, ?_⟩
        have he : ns[i].node = ns[j].node := by simpa using hc24
        have hm : (ns.map (·.node))[j] ∈ (ns.map (·.node)).take j := by
          rw [show (ns.map (·.node))[j] = (ns.map (·.node))[i] by simp [he]]
          exact List.mem_take_iff_getElem.2 ⟨i, by omega, rfl⟩
        have : needTwice ns = true := by
          unfold needTwice twiceB
          rw [Bool.not_eq_true', decide_eq_false_iff_not]
          exact fun h => (hnt.1 (nodup_of_take h)).2 hm
        exact ⟨by rw [e0, ht0, hn0, this]; rfl, H.below⟩
      refine WP.skip ?_
      refine WP.region ?_
      refine OPS.val rfl rfl rfl (Ev.mvI rfl) ?_
      refine OPS.val rfl rfl rfl (Ev.add rfl rfl (by unfold fits; omega)) ?_
      refine OPS.val rfl rfl rfl (Ev.asI rfl) ?_
      refine OPS.nil ?_
      have he : ¬ ns[i].node = ns[j].node := by simpa using hc24
      refine ⟨(by repeat (first | exact Agree.refl _ _ | exact Agree.mix _ _ _ | refine Agree.upd rfl ?_ | refine Agree.mix2 rfl ?_)), k2 - 1, by omega, i + 1, by omega, rfl, H, ?_⟩
      rw [List.take_succ_eq_append_getElem hmi]
      simp only [List.mem_append, List.mem_singleton, not_or]
      exact ⟨hno, fun h => he (by simpa using h.symm)⟩
    refine WP.exit ?_
    refine XB.hit ?_
    refine WP.region ?_
    refine OPS.val rfl rfl rfl (Ev.mvI rfl) ?_
    refine OPS.val rfl rfl rfl (Ev.add rfl rfl (by unfold fits; omega)) ?_
    refine OPS.val rfl rfl rfl (Ev.asI rfl) ?_
    refine OPS.nil ?_
    have hij : i = j := by simp at hc22; omega
    subst hij
    exact ⟨(by repeat (first | exact Agree.refl _ _ | exact Agree.mix _ _ _ | refine Agree.upd rfl ?_ | refine Agree.mix2 rfl ?_)), k - 1, by omega, i + 1, by omega, rfl, H, hnt.2 ⟨hall, hno⟩⟩
  have hj : j = ns.length := by simp at hc19; omega
  have hnd : needTwice ns = false := by
    rw [hj, show ns.length = (ns.map (·.node)).length by simp, List.take_length] at hall
    simp only [needTwice, twiceB, hall, decide_true]; rfl
  have e1 : nightErr n l ts ns hd = if inB hd 0 3600 = true then 0 else 1 := by rw [e0, ht0, hn0, hnd]; simp
  refine WP.exit ?_
  refine XB.hit ?_
  refine WP.seq ?_
  refine WP.seq ?_
  refine WP.region ?_
  refine OPS.val rfl rfl rfl (Ev.fieldAddr (fld_run rfl) rfl) ?_
  refine OPS.val rfl rfl rfl (Ev.load1 (agg_run rfl) rfl (by exact H.ldL 0 rfl _ rfl)) ?_
  refine OPS.val rfl rfl rfl (Ev.lss rfl rfl) ?_
  refine OPS.val rfl rfl rfl (Ev.mvB rfl) ?_
  refine OPS.gval rfl rfl rfl rfl rfl (fun hg => Ev.fieldAddr (fld_run rfl) (by rfl)) ?_
  refine OPS.gval rfl rfl rfl rfl rfl (fun hg => Ev.load1 (agg_run rfl) (by exact gvE hg rfl) (by exact H.ldL 0 rfl _ rfl)) ?_
  refine OPS.gval rfl rfl rfl rfl rfl (fun hg => Ev.gtr (by exact gvE hg rfl) (by rfl)) ?_
  refine OPS.val rfl rfl rfl ((by exact Ev.pickOr rfl rfl rfl)) ?_
  refine OPS.nil ?_
  refine WP.cond rfl (fun hc26 => ?_) (fun hc26 => ?_)
  · refine WP.seq ?_
    refine WP.region ?_
    refine OPS.val rfl rfl rfl (Ev.asI rfl) ?_
    refine OPS.nil ?_
    refine WP.ret ⟨_, rfl, ?_⟩
    exact ⟨by rw [e1, if_neg (by simp at hc26; simp [inB]; omega)]; rfl, H.below⟩
  refine WP.skip ?_
  refine WP.seq ?_
  refine WP.region ?_
  refine OPS.val rfl rfl rfl (Ev.asI rfl) ?_
  refine OPS.nil ?_
  refine WP.ret ⟨_, rfl, ?_⟩
  exact ⟨by rw [e1, if_pos (by simp at hc26; simp [inB]; omega)]; rfl, H.below⟩
end Go.Proofs.Ytfddebpeiilohaa

/-
  Walks: the reference's names.
-/
set_option linter.all false
namespace Go.Proofs.Ytfddebpeiilohaa
open Go Go.W Go.RowKit

end Go.Proofs.Ytfddebpeiilohaa

/-
  Walks: the reference's Few, Same.
-/
set_option linter.all false
namespace Go.Proofs.Ytfddebpeiilohaa
open Go Go.W Go.RowKit

def fewB (ll tl nl : Nat) : Bool := decide (ll ≤ 600) && decide (tl ≤ 20) && decide (nl ≤ 30)
theorem r42Few (n hd : Int) (A B C : Option Addr) (ll tl nl ca cb cc : Nat) (w0 : World) :
    Calls Try.prog 21 #[.agg #[I n, .slice A ll ca, .slice B tl cb, .slice C nl cc, I hd]] w0 fun e w' => e = .returned (.bool (fewB ll tl nl)) ∧ Below w0.heap.size w0 w' := by
  have H := SH.refl w0
  refine Calls.ofWP Try.func21 rfl Try.results21 Try.ntmps21 rfl ?_
  refine WP.seq ?_
  refine WP.region ?_
  refine OPS.box rfl rfl rfl rfl (cA rfl) H ?_
  clear H; intro g1 w H
  refine OPS.val rfl rfl rfl (Ev.asB rfl) ?_
  refine OPS.nil ?_
  refine WP.seq ?_
  refine WP.region ?_
  refine OPS.val rfl rfl rfl (Ev.fieldAddr (fld_run rfl) rfl) ?_
  refine OPS.val rfl rfl rfl (Ev.fieldAddr (fld_run rfl) rfl) ?_
  refine OPS.val rfl rfl rfl (Ev.load1 (agg_run rfl) rfl (by exact H.ldL 0 rfl _ rfl)) ?_
  refine OPS.val rfl rfl rfl (Ev.len (el_run rfl) rfl) ?_
  refine OPS.val rfl rfl rfl (Ev.leq rfl rfl) ?_
  refine OPS.val rfl rfl rfl (Ev.mvB rfl) ?_
  refine OPS.gval rfl rfl rfl rfl rfl (fun hg => Ev.fieldAddr (fld_run rfl) (by rfl)) ?_
  refine OPS.gval rfl rfl rfl rfl rfl (fun hg => Ev.load1 (agg_run rfl) (by exact gvE hg rfl) (by exact H.ldL 0 rfl _ rfl)) ?_
  refine OPS.gval rfl rfl rfl rfl rfl (fun hg => Ev.len (el_run rfl) (by exact gvE hg rfl)) ?_
  refine OPS.gval rfl rfl rfl rfl rfl (fun hg => Ev.leq (by exact gvE hg rfl) (by rfl)) ?_
  refine OPS.val rfl rfl rfl ((by exact Ev.pickAnd rfl rfl rfl)) ?_
  refine OPS.val rfl rfl rfl (Ev.mvB rfl) ?_
  refine OPS.gval rfl rfl rfl rfl rfl (fun hg => Ev.fieldAddr (fld_run rfl) (by rfl)) ?_
  refine OPS.gval rfl rfl rfl rfl rfl (fun hg => Ev.load1 (agg_run rfl) (by exact gvE hg rfl) (by exact H.ldL 0 rfl _ rfl)) ?_
  refine OPS.gval rfl rfl rfl rfl rfl (fun hg => Ev.len (el_run rfl) (by exact gvE hg rfl)) ?_
  refine OPS.gval rfl rfl rfl rfl rfl (fun hg => Ev.leq (by exact gvE hg rfl) (by rfl)) ?_
  refine OPS.val rfl rfl rfl ((by exact Ev.pickAnd rfl rfl rfl)) ?_
  refine OPS.val rfl rfl rfl (Ev.asB rfl) ?_
  refine OPS.nil ?_
  refine WP.ret ⟨_, rfl, ?_⟩
  have h1 : decide ((ll : Int) ≤ 600) = decide (ll ≤ 600) := decide_eq_decide.2 (by omega)
  have h2 : decide ((tl : Int) ≤ 20) = decide (tl ≤ 20) := decide_eq_decide.2 (by omega)
  have h3 : decide ((nl : Int) ≤ 30) = decide (nl ≤ 30) := decide_eq_decide.2 (by omega)
  exact ⟨by unfold fewB; rw [← h1, ← h2, ← h3]; rfl, H.below⟩
end Go.Proofs.Ytfddebpeiilohaa
