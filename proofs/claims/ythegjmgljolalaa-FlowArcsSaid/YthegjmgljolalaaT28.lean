/-
  Walk: the law FlowArcs.
-/
import Derived.Test.YthegjmgljolalaaT27
set_option linter.all false
namespace Go.Proofs.Ythegjmgljolalaa
open Go Go.W Go.RowKit

theorem RowsAt.cells {α : Type} {sz : Nat} {enc : α → List Value} {w : World} {b : Nat} (hsz : ∀ x, (enc x).length = sz) : ∀ {l : List α} {o : Nat}, RowsAt sz enc w (some ⟨b, o, none⟩) l → cellsAt w b o (l.flatMap enc)
  | [], _, _ => trivial
  | x :: l, o, h => by
    have app : ∀ (vs us : List Value) (o : Nat), cellsAt w b o vs → cellsAt w b (o + vs.length) us → cellsAt w b o (vs ++ us) := by
      intro vs
      induction vs with
      | nil => intro us o _ h2; simpa using h2
      | cons v vs ih => intro us o h1 h2; exact ⟨h1.1, ih us (o + 1) h1.2 (by rw [show o + 1 + vs.length = o + (v :: vs).length by simp; omega]; exact h2)⟩
    rw [List.flatMap_cons]
    refine app _ _ o ?_ ?_
    · obtain ⟨_, _, e1, h1⟩ := h 0 (Nat.zero_lt_succ _)
      cases e1
      simpa using h1
    · rw [hsz]
      refine RowsAt.cells hsz fun k hk => ⟨b, o + sz, rfl, ?_⟩
      obtain ⟨_, _, e1, h1⟩ := h (k + 1) (by simpa using hk)
      cases e1
      rw [show o + sz + k * sz = o + (k + 1) * sz by rw [Nat.succ_mul]; omega]
      exact h1
theorem arcCells_len (x : Arc) : (arcCells x).length = 4 := rfl
theorem arcs_one (l : List Arc) : ((l.flatMap arcCells).all (·.oneCell')) = true := by
  rw [List.all_eq_true]; intro v hv
  obtain ⟨x, _, hx⟩ := List.mem_flatMap.1 hv
  simp only [arcCells, List.mem_cons, List.not_mem_nil, or_false] at hx
  rcases hx with rfl | rfl | rfl | rfl <;> rfl
theorem netOut_ext (p : Int → Int) (a : Arc) : ∀ (l : List Arc) (on : List Int), on.length = l.length → netOut p (l ++ [a]) (on ++ [0]) = netOut p l on
  | [], [], _ => by simp [netOut]
  | b :: l, x :: on, h => by simp only [List.cons_append, netOut]; rw [netOut_ext p a l on (by simpa using h)]
  | [], _ :: _, h => by simp at h
  | _ :: _, [], h => by simp at h
theorem costOf_ext (a : Arc) : ∀ (l : List Arc) (on : List Int), on.length = l.length → costOf (l ++ [a]) (on ++ [0]) = costOf l on
  | [], [], _ => by simp [costOf]
  | b :: l, x :: on, h => by simp only [List.cons_append, costOf]; rw [costOf_ext a l on (by simpa using h)]
  | [], _ :: _, h => by simp at h
  | _ :: _, [], h => by simp at h
theorem IsFlow.ext {n : Nat} {l : List Arc} {s t amt : Int} {on : List Int} (h : IsFlow n l s t on amt) {a : Arc} (ha : 0 ≤ a.cap) : IsFlow n (l ++ [a]) s t (on ++ [0]) amt := by
  have hl := h.v.len
  refine ⟨⟨by simp [hl], fun i h1 h2 => ?_⟩, fun u a1 a2 a3 a4 => by rw [netOut_ext _ a l on hl]; exact h.cons u a1 a2 a3 a4, by rw [netOut_ext _ a l on hl]; exact h.amt⟩
  by_cases hi : i < l.length
  · rw [List.getElem_append_left (by omega), List.getElem_append_left hi]; exact h.v.bd i hi (by omega)
  · simp only [List.length_append, List.length_cons, List.length_nil] at h1
    rw [List.getElem_append_right (by omega), List.getElem_append_right (by omega)]
    have e1 : i - l.length = 0 := by omega
    have e2 : i - on.length = 0 := by omega
    simp only [e1, e2, List.getElem_cons_zero]
    omega
theorem endsErr_net {n f t : Int} {l l' : List Arc} (h : netErr n l = 0) (h' : netErr n l' = 0) : endsErr n l f t = endsErr n l' f t := by
  unfold endsErr; rw [h, h']
theorem arcs_most {n f t r er r' er' : Int} {l : List Arc} {a : Arc} (h1 : netErr n l = 0) (h2 : netErr n (l ++ [a]) = 0) (h : MostRet n f t l r er) (h' : MostRet n f t (l ++ [a]) r' er') : er = er' ∧ r ≤ r' := by
  have he : er = er' := by rw [h.1, h'.1]; exact endsErr_net h1 h2
  refine ⟨he, ?_⟩
  by_cases h0 : er = 0
  · obtain ⟨m, rfl, hx⟩ := h.2.2 h0
    obtain ⟨m', hm, hy⟩ := h'.2.2 (he ▸ h0)
    obtain rfl : m = m' := by omega
    obtain ⟨m2, s, d, hE⟩ := endsOk_of (h'.1 ▸ (he ▸ h0) : endsErr m (l ++ [a]) f t = 0)
    obtain rfl : m = m2 := by have := hE.hn; omega
    have e2 := hE.hf; have e3 := hE.ht
    subst e2 e3
    obtain ⟨⟨on, hf⟩, _⟩ := hx
    exact hy.ge hE.net.nodes hE.s1 (hf.ext (hE.net.caps a (by simp)).1.1)
  · rw [h.2.1 h0, h'.2.1 (he ▸ h0)]; exact Int.le_refl _
theorem arcs_cost {n f t amt most a1 c1 e1 most' a2 c2 e2 : Int} {l : List Arc} {a : Arc} {on1 pots1 on2 pots2 : List Int} (g1 : netErr n l = 0) (g2 : netErr n (l ++ [a]) = 0) (h1 : CheapRet n f t amt l most a1 c1 e1 on1 pots1) (h2 : CheapRet n f t amt (l ++ [a]) most' a2 c2 e2 on2 pots2) (h0 : e1 = 0) : e2 = 0 ∧ c2 ≤ c1 := by
  obtain ⟨_, hm⟩ := arcs_most g1 g2 h1.mst h2.mst
  obtain ⟨q1, q2, q3, q4⟩ := cheapErr_ends (h1.err.symm.trans h0)
  have hE2 : endsErr n (l ++ [a]) f t = 0 := by rw [← endsErr_net g1 g2]; exact q1
  have he : e2 = 0 := by rw [h2.err, cheapErr, if_neg (by simp [hE2]), if_neg (by simp; omega), if_neg (by omega)]
  refine ⟨he, ?_⟩
  obtain ⟨m, s, d, hE, _, k1, _, p1⟩ := h1.good h0
  obtain ⟨m', s', d', hE', _, k2, _, p2⟩ := h2.good he
  obtain rfl : m = m' := by have := hE.hn; have := hE'.hn; omega
  obtain rfl : s = s' := by have := hE.hf; have := hE'.hf; omega
  obtain rfl : d = d' := by have := hE.ht; have := hE'.ht; omega
  have hl := (k2.least hE').2 _ (k1.flow.ext (hE'.net.caps a (by simp)).1.1)
  rw [costOf_ext a l on1 k1.flow.v.len] at hl
  omega

set_option maxHeartbeats 2000000 in
theorem lawArcs (n f t amt : Int) (a : Arc) (A : Option Addr) (l : List Arc) (cap : Nat) (w0 : World) (hz : ArcsAt w0 A l) :
    Calls Try.prog 10 #[.agg #[I n, .slice A l.length cap], I f, I t, I amt, .agg (arcCells a).toArray] w0 fun e w' => e = .returned (.bool true) ∧ Below w0.heap.size w0 w' := by
  have H := SH.refl w0
  refine Calls.ofWP Try.func10 rfl Try.results10 Try.ntmps10 rfl ?_
  refine WP.seq ?_
  refine WP.region ?_
  refine OPS.box rfl rfl rfl rfl (cA rfl) H ?_
  clear H; intro g5 w H
  refine OPS.box rfl rfl rfl rfl (cA rfl) H ?_
  clear H; intro g9 w H
  refine OPS.val rfl rfl rfl (Ev.asB rfl) ?_
  refine OPS.nil ?_
  refine WP.seq ?_
  refine WP.seq ?_
  refine WP.region ?_
  refine OPS.val rfl rfl rfl ((by exact Ev.loadO 1 H rfl (agg_run rfl) (size_run rfl) (by rfl) rfl)) ?_
  refine OPS.call (d := some 21) rfl rfl rfl (EvC.func (fun_run rfl)) (refSmall n A l.length cap w) ?_
  rintro _ w ⟨rfl, hb⟩
  refine ⟨_, rfl, ?_⟩
  replace H := H.toBelow hb; clear hb
  refine OPS.val rfl rfl rfl (Ev.not rfl) ?_
  refine OPS.nil ?_
  refine WP.cond rfl (fun hc1 => ?_) (fun hc1 => ?_)
  · refine WP.seq ?_
    refine WP.region ?_
    refine OPS.call (d := some 23) rfl rfl rfl (EvC.func (fun_run rfl)) (lawAwake w) ?_
    rintro _ w ⟨rfl, hb⟩
    refine ⟨_, rfl, ?_⟩
    replace H := H.toBelow hb; clear hb
    refine OPS.val rfl rfl rfl (Ev.asB rfl) ?_
    refine OPS.nil ?_
    refine WP.ret ⟨_, rfl, ?_⟩
    exact ⟨rfl, H.below⟩
  have hll : l.length ≤ 600 := by
    have hs : smallB n l.length = true := by simpa using hc1
    unfold smallB at hs
    simp at hs; omega
  have hsrc : ∀ w, SH w0 [] w [⟨g9, 46, arcCells a⟩, ⟨g5, 24, [I n, .slice A l.length cap]⟩] → (l.length = 0 ∨ ∃ b o, A = some ⟨b, o, none⟩ ∧ cellsAt w b o (l.flatMap arcCells)) := fun w H => by
    rcases Nat.eq_zero_or_pos l.length with h | h
    · exact .inl h
    · obtain ⟨b, o, rfl, _⟩ := hz 0 h
      exact .inr ⟨b, o, rfl, RowsAt.cells arcCells_len (hz.sh H)⟩
  refine WP.skip ?_
  refine WP.seq ?_
  have Hf : SH w0 [] w ([⟨g9, 46, arcCells a⟩, ⟨g5, 24, [I n, .slice A l.length cap]⟩] ++ []) := by simpa using H
  refine WP.rheldC [11, 24, 25, 26, 27, 28, 29, 30, 31, 32, 33] (fun u w' => ∃ (g11 : Nat) (A3 : Option Addr) (cap3 : Nat) (Lo3 : List Blk), u 11 = .pointer (some ⟨g11, 0, none⟩) ∧ OwnS A3 cap3 (0 + l.length + 1) ([] ++ l.flatMap arcCells ++ arcCells a) 46 4 Lo3 ∧ SH w0 [] w' ([⟨g11, 24, [I n, .slice A3 (0 + l.length + 1) cap3]⟩, ⟨g9, 46, arcCells a⟩, ⟨g5, 24, [I n, .slice A l.length cap]⟩] ++ Lo3)) mixed H ?_ ?_
  · clear H; intro w hbw3 H
    refine OPH.take 0 rfl rfl rfl rfl (by kernel_rfl) (by kernel_rfl) (by kernel_rfl) rfl (by exact H) (fun w H => Ev.fieldAddr (fld_run rfl) rfl) ?_
    refine OPH.take 1 rfl rfl rfl rfl (by kernel_rfl) (by kernel_rfl) (by kernel_rfl) rfl (by exact H) (fun w H => Ev.load1 (agg_run rfl) rfl (by exact H.ldL 1 rfl _ rfl)) ?_
    refine OPH.take 3 rfl rfl rfl rfl (by kernel_rfl) (by kernel_rfl) (by kernel_rfl) rfl (by exact H) (fun w H => Ev.fieldAddr (fld_run rfl) rfl) ?_
    refine OPH.take 4 rfl rfl rfl rfl (by kernel_rfl) (by kernel_rfl) (by kernel_rfl) rfl (by exact H) (fun w H => Ev.load1 (agg_run rfl) rfl (by exact H.ldL 1 rfl _ rfl)) ?_
    refine OPH.take 6 rfl rfl rfl rfl (by kernel_rfl) (by kernel_rfl) (by kernel_rfl) rfl (by exact H) (fun w H => (by exact Ev.loadO 0 H rfl (agg_run rfl) (size_run rfl) (by rfl) rfl)) ?_
    refine OPH.all [2, 7, 10] (by kernel_rfl) (by simp) rfl ?_
    intro i hi; simp only [List.mem_cons, List.not_mem_nil, or_false] at hi
    rcases hi with rfl | rfl | rfl
    · refine ⟨_, rfl, ?_⟩
      try replace Hf := Hf.toBelow hbw3
      refine OPS.buildSlice rfl rfl rfl rfl (bsl_22_0_ (e := fun _ => .int .i64 0)) Hf ?_
      clear H Hf; intro g26 w Hf
      replace Hf := Hf.perm (List.perm_append_comm (l₁ := [_]))
      try simp only [List.append_nil] at Hf
      have hO : OwnS (some ⟨g26, 0, none⟩) 0 0 [] 46 4 [⟨g26, 46, []⟩] := ⟨rfl, .inr ⟨g26, [], rfl, rfl, Nat.le_refl _, by unfold maxLen; omega, rfl⟩⟩
      have H : SH w0 [] w [⟨g9, 46, arcCells a⟩, ⟨g5, 24, [I n, .slice A l.length cap]⟩] := by exact Hf.reidx [0, 1] (by decide) rfl
      refine OPS.nil ?_
      refine ⟨(by exact H), ?_⟩
      refine OPH.all [5, 7, 10] (by kernel_rfl) (by simp) rfl ?_
      intro i hi; simp only [List.mem_cons, List.not_mem_nil, or_false] at hi
      rcases hi with rfl | rfl | rfl
      · refine ⟨_, rfl, ?_⟩
        try replace Hf := Hf.toBelow hbw3
        refine OPS.appendE (m := l.length) (news := l.flatMap arcCells) rfl rfl rfl rfl rfl (sl_run rfl) rfl rfl hO (rows_length arcCells_len l) (hsrc w H) (arcs_one l) (by omega) (by unfold maxLen; omega) Hf (List.Perm.refl _) ?_
        clear H Hf hO; intro A2 cap2 Lo w hO Hf
        have H : SH w0 [] w [⟨g9, 46, arcCells a⟩, ⟨g5, 24, [I n, .slice A l.length cap]⟩] := by exact Hf.reidx [0, 1] (by decide) rfl
        refine OPS.nil ?_
        refine ⟨(by exact H), ?_⟩
        refine OPH.all [7, 10] (by kernel_rfl) (by simp) rfl ?_
        intro i hi; simp only [List.mem_cons, List.not_mem_nil, or_false] at hi
        rcases hi with rfl | rfl
        · refine ⟨_, rfl, ?_⟩
          try replace Hf := Hf.toBelow hbw3
          refine OPS.buildSlice rfl rfl rfl rfl (bsl_22_1_0 rfl) Hf ?_
          clear H Hf; intro g31 w Hf
          rw [← List.cons_append] at Hf
          have H : SH w0 [] w [⟨g9, 46, arcCells a⟩, ⟨g5, 24, [I n, .slice A l.length cap]⟩] := by exact Hf.reidx [1, 2] (by decide) rfl
          refine OPS.nil ?_
          refine ⟨(by exact H), ?_⟩
          refine OPH.all [8, 10] (by kernel_rfl) (by simp) rfl ?_
          intro i hi; simp only [List.mem_cons, List.not_mem_nil, or_false] at hi
          rcases hi with rfl | rfl
          · refine ⟨_, rfl, ?_⟩
            try replace Hf := Hf.toBelow hbw3
            refine OPS.append (m := 1) (news := arcCells a) rfl rfl rfl rfl rfl (sl_run rfl) rfl rfl hO rfl (by exact src_own Hf 0 rfl) rfl (by omega) (by unfold maxLen; omega) Hf (List.Perm.refl _) ?_
            clear H Hf hO; intro A3 cap3 Lo w hO Hf
            have H : SH w0 [] w [⟨g9, 46, arcCells a⟩, ⟨g5, 24, [I n, .slice A l.length cap]⟩] := by exact Hf.reidx [1, 2] (by decide) rfl
            refine OPS.nil ?_
            refine ⟨(by exact H), ?_⟩
            refine OPH.take 9 rfl rfl rfl rfl (by kernel_rfl) (by kernel_rfl) (by kernel_rfl) rfl (by exact H) (fun w H => Ev.build (bld_24_0_1 rfl rfl)) ?_
            refine OPH.all [10] (by kernel_rfl) (by simp) rfl ?_
            intro i hi; simp only [List.mem_cons, List.not_mem_nil, or_false] at hi
            rcases hi with rfl
            · refine ⟨_, rfl, ?_⟩
              try replace Hf := Hf.toBelow hbw3
              refine OPS.alloc rfl rfl rfl rfl (zero_run rfl) rfl Hf ?_
              clear H Hf; intro g11 w Hf
              rw [← List.cons_append] at Hf
              have H : SH w0 [] w [⟨g9, 46, arcCells a⟩, ⟨g5, 24, [I n, .slice A l.length cap]⟩] := by exact Hf.reidx [2, 3] (by decide) rfl
              refine OPS.nil ?_
              refine ⟨(by exact H), ?_⟩
              refine OPH.all [11] (by kernel_rfl) (by simp) rfl ?_
              intro i hi; simp only [List.mem_cons, List.not_mem_nil, or_false] at hi
              rcases hi with rfl
              · refine ⟨_, rfl, ?_⟩
                refine OPS.store (b := ⟨g11, _, _⟩) 0 _ rfl rfl rfl (size_run rfl) rfl (cA rfl) rfl rfl Hf rfl (by simp) ?_
                clear H Hf; intro w Hf
                simp only [List.set_cons_zero, List.set_cons_succ, List.cons_append, List.nil_append, putL] at Hf
                have H : SH w0 [] w [⟨g9, 46, arcCells a⟩, ⟨g5, 24, [I n, .slice A l.length cap]⟩] := by exact Hf.reidx [2, 3] (by decide) rfl
                refine OPS.nil ?_
                refine ⟨(by exact H), ?_⟩
                refine OPH.done (by kernel_rfl) ?_
                exact ⟨(by repeat (first | exact Agree.refl _ _ | exact Agree.mix _ _ _ | refine Agree.upd rfl ?_ | refine Agree.mix2 rfl ?_)), g11, _, _, Lo, rfl, hO, by exact Hf.reidxT (L := [_, _, _, _]) [0, 2, 3] (by decide) rfl⟩
          · refine ⟨_, rfl, ?_⟩
            try replace Hf := Hf.toBelow hbw3
            refine OPS.alloc rfl rfl rfl rfl (zero_run rfl) rfl Hf ?_
            clear H Hf; intro g11 w Hf
            rw [← List.cons_append] at Hf
            have H : SH w0 [] w [⟨g9, 46, arcCells a⟩, ⟨g5, 24, [I n, .slice A l.length cap]⟩] := by exact Hf.reidx [2, 3] (by decide) rfl
            refine OPS.nil ?_
            refine ⟨(by exact H), ?_⟩
            refine OPH.all [8] (by kernel_rfl) (by simp) rfl ?_
            intro i hi; simp only [List.mem_cons, List.not_mem_nil, or_false] at hi
            rcases hi with rfl
            · refine ⟨_, rfl, ?_⟩
              try replace Hf := Hf.toBelow hbw3
              refine OPS.append (m := 1) (news := arcCells a) rfl rfl rfl rfl rfl (sl_run rfl) rfl rfl hO rfl (by exact src_own Hf 1 rfl) rfl (by omega) (by unfold maxLen; omega) Hf (List.Perm.refl _) ?_
              clear H Hf hO; intro A3 cap3 Lo w hO Hf
              have H : SH w0 [] w [⟨g9, 46, arcCells a⟩, ⟨g5, 24, [I n, .slice A l.length cap]⟩] := by exact Hf.reidx [2, 3] (by decide) rfl
              refine OPS.nil ?_
              refine ⟨(by exact H), ?_⟩
              refine OPH.take 9 rfl rfl rfl rfl (by kernel_rfl) (by kernel_rfl) (by kernel_rfl) rfl (by exact H) (fun w H => Ev.build (bld_24_0_1 rfl rfl)) ?_
              refine OPH.all [11] (by kernel_rfl) (by simp) rfl ?_
              intro i hi; simp only [List.mem_cons, List.not_mem_nil, or_false] at hi
              rcases hi with rfl
              · refine ⟨_, rfl, ?_⟩
                refine OPS.store (b := ⟨g11, _, _⟩) 0 _ rfl rfl rfl (size_run rfl) rfl (cA rfl) rfl rfl Hf rfl (by simp) ?_
                clear H Hf; intro w Hf
                simp only [List.set_cons_zero, List.set_cons_succ, List.cons_append, List.nil_append, putL] at Hf
                have H : SH w0 [] w [⟨g9, 46, arcCells a⟩, ⟨g5, 24, [I n, .slice A l.length cap]⟩] := by exact Hf.reidx [2, 3] (by decide) rfl
                refine OPS.nil ?_
                refine ⟨(by exact H), ?_⟩
                refine OPH.done (by kernel_rfl) ?_
                exact ⟨(by repeat (first | exact Agree.refl _ _ | exact Agree.mix _ _ _ | refine Agree.upd rfl ?_ | refine Agree.mix2 rfl ?_)), g11, _, _, Lo, rfl, hO, by exact Hf.reidxT (L := [_, _, _, _]) [0, 2, 3] (by decide) rfl⟩
        · refine ⟨_, rfl, ?_⟩
          try replace Hf := Hf.toBelow hbw3
          refine OPS.alloc rfl rfl rfl rfl (zero_run rfl) rfl Hf ?_
          clear H Hf; intro g11 w Hf
          rw [← List.cons_append] at Hf
          have H : SH w0 [] w [⟨g9, 46, arcCells a⟩, ⟨g5, 24, [I n, .slice A l.length cap]⟩] := by exact Hf.reidx [1, 2] (by decide) rfl
          refine OPS.nil ?_
          refine ⟨(by exact H), ?_⟩
          refine OPH.all [7] (by kernel_rfl) (by simp) rfl ?_
          intro i hi; simp only [List.mem_cons, List.not_mem_nil, or_false] at hi
          rcases hi with rfl
          · refine ⟨_, rfl, ?_⟩
            try replace Hf := Hf.toBelow hbw3
            refine OPS.buildSlice rfl rfl rfl rfl (bsl_22_1_0 rfl) Hf ?_
            clear H Hf; intro g31 w Hf
            rw [← List.cons_append] at Hf
            have H : SH w0 [] w [⟨g9, 46, arcCells a⟩, ⟨g5, 24, [I n, .slice A l.length cap]⟩] := by exact Hf.reidx [2, 3] (by decide) rfl
            refine OPS.nil ?_
            refine ⟨(by exact H), ?_⟩
            refine OPH.all [8] (by kernel_rfl) (by simp) rfl ?_
            intro i hi; simp only [List.mem_cons, List.not_mem_nil, or_false] at hi
            rcases hi with rfl
            · refine ⟨_, rfl, ?_⟩
              try replace Hf := Hf.toBelow hbw3
              refine OPS.append (m := 1) (news := arcCells a) rfl rfl rfl rfl rfl (sl_run rfl) rfl rfl hO rfl (by exact src_own Hf 0 rfl) rfl (by omega) (by unfold maxLen; omega) Hf (List.Perm.refl _) ?_
              clear H Hf hO; intro A3 cap3 Lo w hO Hf
              have H : SH w0 [] w [⟨g9, 46, arcCells a⟩, ⟨g5, 24, [I n, .slice A l.length cap]⟩] := by exact Hf.reidx [2, 3] (by decide) rfl
              refine OPS.nil ?_
              refine ⟨(by exact H), ?_⟩
              refine OPH.take 9 rfl rfl rfl rfl (by kernel_rfl) (by kernel_rfl) (by kernel_rfl) rfl (by exact H) (fun w H => Ev.build (bld_24_0_1 rfl rfl)) ?_
              refine OPH.all [11] (by kernel_rfl) (by simp) rfl ?_
              intro i hi; simp only [List.mem_cons, List.not_mem_nil, or_false] at hi
              rcases hi with rfl
              · refine ⟨_, rfl, ?_⟩
                refine OPS.store (b := ⟨g11, _, _⟩) 1 _ rfl rfl rfl (size_run rfl) rfl (cA rfl) rfl rfl Hf rfl (by simp) ?_
                clear H Hf; intro w Hf
                simp only [List.set_cons_zero, List.set_cons_succ, List.cons_append, List.nil_append, putL] at Hf
                have H : SH w0 [] w [⟨g9, 46, arcCells a⟩, ⟨g5, 24, [I n, .slice A l.length cap]⟩] := by exact Hf.reidx [2, 3] (by decide) rfl
                refine OPS.nil ?_
                refine ⟨(by exact H), ?_⟩
                refine OPH.done (by kernel_rfl) ?_
                exact ⟨(by repeat (first | exact Agree.refl _ _ | exact Agree.mix _ _ _ | refine Agree.upd rfl ?_ | refine Agree.mix2 rfl ?_)), g11, _, _, Lo, rfl, hO, by exact Hf.reidxT (L := [_, _, _, _]) [1, 2, 3] (by decide) rfl⟩
      · refine ⟨_, rfl, ?_⟩
        try replace Hf := Hf.toBelow hbw3
        refine OPS.buildSlice rfl rfl rfl rfl (bsl_22_1_0 rfl) Hf ?_
        clear H Hf; intro g31 w Hf
        rw [← List.cons_append] at Hf
        have H : SH w0 [] w [⟨g9, 46, arcCells a⟩, ⟨g5, 24, [I n, .slice A l.length cap]⟩] := by exact Hf.reidx [1, 2] (by decide) rfl
        refine OPS.nil ?_
        refine ⟨(by exact H), ?_⟩
        refine OPH.all [5, 10] (by kernel_rfl) (by simp) rfl ?_
        intro i hi; simp only [List.mem_cons, List.not_mem_nil, or_false] at hi
        rcases hi with rfl | rfl
        · refine ⟨_, rfl, ?_⟩
          try replace Hf := Hf.toBelow hbw3
          refine OPS.appendE (m := l.length) (news := l.flatMap arcCells) rfl rfl rfl rfl rfl (sl_run rfl) rfl rfl hO (rows_length arcCells_len l) (hsrc w H) (arcs_one l) (by omega) (by unfold maxLen; omega) Hf (List.Perm.refl _) ?_
          clear H Hf hO; intro A2 cap2 Lo w hO Hf
          have H : SH w0 [] w [⟨g9, 46, arcCells a⟩, ⟨g5, 24, [I n, .slice A l.length cap]⟩] := by exact Hf.reidx [1, 2] (by decide) rfl
          refine OPS.nil ?_
          refine ⟨(by exact H), ?_⟩
          refine OPH.all [8, 10] (by kernel_rfl) (by simp) rfl ?_
          intro i hi; simp only [List.mem_cons, List.not_mem_nil, or_false] at hi
          rcases hi with rfl | rfl
          · refine ⟨_, rfl, ?_⟩
            try replace Hf := Hf.toBelow hbw3
            refine OPS.append (m := 1) (news := arcCells a) rfl rfl rfl rfl rfl (sl_run rfl) rfl rfl hO rfl (by exact src_own Hf 0 rfl) rfl (by omega) (by unfold maxLen; omega) Hf (List.Perm.refl _) ?_
            clear H Hf hO; intro A3 cap3 Lo w hO Hf
            have H : SH w0 [] w [⟨g9, 46, arcCells a⟩, ⟨g5, 24, [I n, .slice A l.length cap]⟩] := by exact Hf.reidx [1, 2] (by decide) rfl
            refine OPS.nil ?_
            refine ⟨(by exact H), ?_⟩
            refine OPH.take 9 rfl rfl rfl rfl (by kernel_rfl) (by kernel_rfl) (by kernel_rfl) rfl (by exact H) (fun w H => Ev.build (bld_24_0_1 rfl rfl)) ?_
            refine OPH.all [10] (by kernel_rfl) (by simp) rfl ?_
            intro i hi; simp only [List.mem_cons, List.not_mem_nil, or_false] at hi
            rcases hi with rfl
            · refine ⟨_, rfl, ?_⟩
              try replace Hf := Hf.toBelow hbw3
              refine OPS.alloc rfl rfl rfl rfl (zero_run rfl) rfl Hf ?_
              clear H Hf; intro g11 w Hf
              rw [← List.cons_append] at Hf
              have H : SH w0 [] w [⟨g9, 46, arcCells a⟩, ⟨g5, 24, [I n, .slice A l.length cap]⟩] := by exact Hf.reidx [2, 3] (by decide) rfl
              refine OPS.nil ?_
              refine ⟨(by exact H), ?_⟩
              refine OPH.all [11] (by kernel_rfl) (by simp) rfl ?_
              intro i hi; simp only [List.mem_cons, List.not_mem_nil, or_false] at hi
              rcases hi with rfl
              · refine ⟨_, rfl, ?_⟩
                refine OPS.store (b := ⟨g11, _, _⟩) 0 _ rfl rfl rfl (size_run rfl) rfl (cA rfl) rfl rfl Hf rfl (by simp) ?_
                clear H Hf; intro w Hf
                simp only [List.set_cons_zero, List.set_cons_succ, List.cons_append, List.nil_append, putL] at Hf
                have H : SH w0 [] w [⟨g9, 46, arcCells a⟩, ⟨g5, 24, [I n, .slice A l.length cap]⟩] := by exact Hf.reidx [2, 3] (by decide) rfl
                refine OPS.nil ?_
                refine ⟨(by exact H), ?_⟩
                refine OPH.done (by kernel_rfl) ?_
                exact ⟨(by repeat (first | exact Agree.refl _ _ | exact Agree.mix _ _ _ | refine Agree.upd rfl ?_ | refine Agree.mix2 rfl ?_)), g11, _, _, Lo, rfl, hO, by exact Hf.reidxT (L := [_, _, _, _]) [0, 2, 3] (by decide) rfl⟩
          · refine ⟨_, rfl, ?_⟩
            try replace Hf := Hf.toBelow hbw3
            refine OPS.alloc rfl rfl rfl rfl (zero_run rfl) rfl Hf ?_
            clear H Hf; intro g11 w Hf
            rw [← List.cons_append] at Hf
            have H : SH w0 [] w [⟨g9, 46, arcCells a⟩, ⟨g5, 24, [I n, .slice A l.length cap]⟩] := by exact Hf.reidx [2, 3] (by decide) rfl
            refine OPS.nil ?_
            refine ⟨(by exact H), ?_⟩
            refine OPH.all [8] (by kernel_rfl) (by simp) rfl ?_
            intro i hi; simp only [List.mem_cons, List.not_mem_nil, or_false] at hi
            rcases hi with rfl
            · refine ⟨_, rfl, ?_⟩
              try replace Hf := Hf.toBelow hbw3
              refine OPS.append (m := 1) (news := arcCells a) rfl rfl rfl rfl rfl (sl_run rfl) rfl rfl hO rfl (by exact src_own Hf 1 rfl) rfl (by omega) (by unfold maxLen; omega) Hf (List.Perm.refl _) ?_
              clear H Hf hO; intro A3 cap3 Lo w hO Hf
              have H : SH w0 [] w [⟨g9, 46, arcCells a⟩, ⟨g5, 24, [I n, .slice A l.length cap]⟩] := by exact Hf.reidx [2, 3] (by decide) rfl
              refine OPS.nil ?_
              refine ⟨(by exact H), ?_⟩
              refine OPH.take 9 rfl rfl rfl rfl (by kernel_rfl) (by kernel_rfl) (by kernel_rfl) rfl (by exact H) (fun w H => Ev.build (bld_24_0_1 rfl rfl)) ?_
              refine OPH.all [11] (by kernel_rfl) (by simp) rfl ?_
              intro i hi; simp only [List.mem_cons, List.not_mem_nil, or_false] at hi
              rcases hi with rfl
              · refine ⟨_, rfl, ?_⟩
                refine OPS.store (b := ⟨g11, _, _⟩) 0 _ rfl rfl rfl (size_run rfl) rfl (cA rfl) rfl rfl Hf rfl (by simp) ?_
                clear H Hf; intro w Hf
                simp only [List.set_cons_zero, List.set_cons_succ, List.cons_append, List.nil_append, putL] at Hf
                have H : SH w0 [] w [⟨g9, 46, arcCells a⟩, ⟨g5, 24, [I n, .slice A l.length cap]⟩] := by exact Hf.reidx [2, 3] (by decide) rfl
                refine OPS.nil ?_
                refine ⟨(by exact H), ?_⟩
                refine OPH.done (by kernel_rfl) ?_
                exact ⟨(by repeat (first | exact Agree.refl _ _ | exact Agree.mix _ _ _ | refine Agree.upd rfl ?_ | refine Agree.mix2 rfl ?_)), g11, _, _, Lo, rfl, hO, by exact Hf.reidxT (L := [_, _, _, _]) [0, 2, 3] (by decide) rfl⟩
        · refine ⟨_, rfl, ?_⟩
          try replace Hf := Hf.toBelow hbw3
          refine OPS.alloc rfl rfl rfl rfl (zero_run rfl) rfl Hf ?_
          clear H Hf; intro g11 w Hf
          rw [← List.cons_append] at Hf
          have H : SH w0 [] w [⟨g9, 46, arcCells a⟩, ⟨g5, 24, [I n, .slice A l.length cap]⟩] := by exact Hf.reidx [2, 3] (by decide) rfl
          refine OPS.nil ?_
          refine ⟨(by exact H), ?_⟩
          refine OPH.all [5] (by kernel_rfl) (by simp) rfl ?_
          intro i hi; simp only [List.mem_cons, List.not_mem_nil, or_false] at hi
          rcases hi with rfl
          · refine ⟨_, rfl, ?_⟩
            try replace Hf := Hf.toBelow hbw3
            refine OPS.appendE (m := l.length) (news := l.flatMap arcCells) rfl rfl rfl rfl rfl (sl_run rfl) rfl rfl hO (rows_length arcCells_len l) (hsrc w H) (arcs_one l) (by omega) (by unfold maxLen; omega) Hf (List.Perm.refl _) ?_
            clear H Hf hO; intro A2 cap2 Lo w hO Hf
            have H : SH w0 [] w [⟨g9, 46, arcCells a⟩, ⟨g5, 24, [I n, .slice A l.length cap]⟩] := by exact Hf.reidx [2, 3] (by decide) rfl
            refine OPS.nil ?_
            refine ⟨(by exact H), ?_⟩
            refine OPH.all [8] (by kernel_rfl) (by simp) rfl ?_
            intro i hi; simp only [List.mem_cons, List.not_mem_nil, or_false] at hi
            rcases hi with rfl
            · refine ⟨_, rfl, ?_⟩
              try replace Hf := Hf.toBelow hbw3
              refine OPS.append (m := 1) (news := arcCells a) rfl rfl rfl rfl rfl (sl_run rfl) rfl rfl hO rfl (by exact src_own Hf 1 rfl) rfl (by omega) (by unfold maxLen; omega) Hf (List.Perm.refl _) ?_
              clear H Hf hO; intro A3 cap3 Lo w hO Hf
              have H : SH w0 [] w [⟨g9, 46, arcCells a⟩, ⟨g5, 24, [I n, .slice A l.length cap]⟩] := by exact Hf.reidx [2, 3] (by decide) rfl
              refine OPS.nil ?_
              refine ⟨(by exact H), ?_⟩
              refine OPH.take 9 rfl rfl rfl rfl (by kernel_rfl) (by kernel_rfl) (by kernel_rfl) rfl (by exact H) (fun w H => Ev.build (bld_24_0_1 rfl rfl)) ?_
              refine OPH.all [11] (by kernel_rfl) (by simp) rfl ?_
              intro i hi; simp only [List.mem_cons, List.not_mem_nil, or_false] at hi
              rcases hi with rfl
              · refine ⟨_, rfl, ?_⟩
                refine OPS.store (b := ⟨g11, _, _⟩) 0 _ rfl rfl rfl (size_run rfl) rfl (cA rfl) rfl rfl Hf rfl (by simp) ?_
                clear H Hf; intro w Hf
                simp only [List.set_cons_zero, List.set_cons_succ, List.cons_append, List.nil_append, putL] at Hf
                have H : SH w0 [] w [⟨g9, 46, arcCells a⟩, ⟨g5, 24, [I n, .slice A l.length cap]⟩] := by exact Hf.reidx [2, 3] (by decide) rfl
                refine OPS.nil ?_
                refine ⟨(by exact H), ?_⟩
                refine OPH.done (by kernel_rfl) ?_
                exact ⟨(by repeat (first | exact Agree.refl _ _ | exact Agree.mix _ _ _ | refine Agree.upd rfl ?_ | refine Agree.mix2 rfl ?_)), g11, _, _, Lo, rfl, hO, by exact Hf.reidxT (L := [_, _, _, _]) [0, 2, 3] (by decide) rfl⟩
      · refine ⟨_, rfl, ?_⟩
        try replace Hf := Hf.toBelow hbw3
        refine OPS.alloc rfl rfl rfl rfl (zero_run rfl) rfl Hf ?_
        clear H Hf; intro g11 w Hf
        rw [← List.cons_append] at Hf
        have H : SH w0 [] w [⟨g9, 46, arcCells a⟩, ⟨g5, 24, [I n, .slice A l.length cap]⟩] := by exact Hf.reidx [1, 2] (by decide) rfl
        refine OPS.nil ?_
        refine ⟨(by exact H), ?_⟩
        refine OPH.all [5, 7] (by kernel_rfl) (by simp) rfl ?_
        intro i hi; simp only [List.mem_cons, List.not_mem_nil, or_false] at hi
        rcases hi with rfl | rfl
        · refine ⟨_, rfl, ?_⟩
          try replace Hf := Hf.toBelow hbw3
          refine OPS.appendE (m := l.length) (news := l.flatMap arcCells) rfl rfl rfl rfl rfl (sl_run rfl) rfl rfl hO (rows_length arcCells_len l) (hsrc w H) (arcs_one l) (by omega) (by unfold maxLen; omega) Hf (List.Perm.refl _) ?_
          clear H Hf hO; intro A2 cap2 Lo w hO Hf
          have H : SH w0 [] w [⟨g9, 46, arcCells a⟩, ⟨g5, 24, [I n, .slice A l.length cap]⟩] := by exact Hf.reidx [1, 2] (by decide) rfl
          refine OPS.nil ?_
          refine ⟨(by exact H), ?_⟩
          refine OPH.all [7] (by kernel_rfl) (by simp) rfl ?_
          intro i hi; simp only [List.mem_cons, List.not_mem_nil, or_false] at hi
          rcases hi with rfl
          · refine ⟨_, rfl, ?_⟩
            try replace Hf := Hf.toBelow hbw3
            refine OPS.buildSlice rfl rfl rfl rfl (bsl_22_1_0 rfl) Hf ?_
            clear H Hf; intro g31 w Hf
            rw [← List.cons_append] at Hf
            have H : SH w0 [] w [⟨g9, 46, arcCells a⟩, ⟨g5, 24, [I n, .slice A l.length cap]⟩] := by exact Hf.reidx [2, 3] (by decide) rfl
            refine OPS.nil ?_
            refine ⟨(by exact H), ?_⟩
            refine OPH.all [8] (by kernel_rfl) (by simp) rfl ?_
            intro i hi; simp only [List.mem_cons, List.not_mem_nil, or_false] at hi
            rcases hi with rfl
            · refine ⟨_, rfl, ?_⟩
              try replace Hf := Hf.toBelow hbw3
              refine OPS.append (m := 1) (news := arcCells a) rfl rfl rfl rfl rfl (sl_run rfl) rfl rfl hO rfl (by exact src_own Hf 0 rfl) rfl (by omega) (by unfold maxLen; omega) Hf (List.Perm.refl _) ?_
              clear H Hf hO; intro A3 cap3 Lo w hO Hf
              have H : SH w0 [] w [⟨g9, 46, arcCells a⟩, ⟨g5, 24, [I n, .slice A l.length cap]⟩] := by exact Hf.reidx [2, 3] (by decide) rfl
              refine OPS.nil ?_
              refine ⟨(by exact H), ?_⟩
              refine OPH.take 9 rfl rfl rfl rfl (by kernel_rfl) (by kernel_rfl) (by kernel_rfl) rfl (by exact H) (fun w H => Ev.build (bld_24_0_1 rfl rfl)) ?_
              refine OPH.all [11] (by kernel_rfl) (by simp) rfl ?_
              intro i hi; simp only [List.mem_cons, List.not_mem_nil, or_false] at hi
              rcases hi with rfl
              · refine ⟨_, rfl, ?_⟩
                refine OPS.store (b := ⟨g11, _, _⟩) 1 _ rfl rfl rfl (size_run rfl) rfl (cA rfl) rfl rfl Hf rfl (by simp) ?_
                clear H Hf; intro w Hf
                simp only [List.set_cons_zero, List.set_cons_succ, List.cons_append, List.nil_append, putL] at Hf
                have H : SH w0 [] w [⟨g9, 46, arcCells a⟩, ⟨g5, 24, [I n, .slice A l.length cap]⟩] := by exact Hf.reidx [2, 3] (by decide) rfl
                refine OPS.nil ?_
                refine ⟨(by exact H), ?_⟩
                refine OPH.done (by kernel_rfl) ?_
                exact ⟨(by repeat (first | exact Agree.refl _ _ | exact Agree.mix _ _ _ | refine Agree.upd rfl ?_ | refine Agree.mix2 rfl ?_)), g11, _, _, Lo, rfl, hO, by exact Hf.reidxT (L := [_, _, _, _]) [1, 2, 3] (by decide) rfl⟩
        · refine ⟨_, rfl, ?_⟩
          try replace Hf := Hf.toBelow hbw3
          refine OPS.buildSlice rfl rfl rfl rfl (bsl_22_1_0 rfl) Hf ?_
          clear H Hf; intro g31 w Hf
          rw [← List.cons_append] at Hf
          have H : SH w0 [] w [⟨g9, 46, arcCells a⟩, ⟨g5, 24, [I n, .slice A l.length cap]⟩] := by exact Hf.reidx [2, 3] (by decide) rfl
          refine OPS.nil ?_
          refine ⟨(by exact H), ?_⟩
          refine OPH.all [5] (by kernel_rfl) (by simp) rfl ?_
          intro i hi; simp only [List.mem_cons, List.not_mem_nil, or_false] at hi
          rcases hi with rfl
          · refine ⟨_, rfl, ?_⟩
            try replace Hf := Hf.toBelow hbw3
            refine OPS.appendE (m := l.length) (news := l.flatMap arcCells) rfl rfl rfl rfl rfl (sl_run rfl) rfl rfl hO (rows_length arcCells_len l) (hsrc w H) (arcs_one l) (by omega) (by unfold maxLen; omega) Hf (List.Perm.refl _) ?_
            clear H Hf hO; intro A2 cap2 Lo w hO Hf
            have H : SH w0 [] w [⟨g9, 46, arcCells a⟩, ⟨g5, 24, [I n, .slice A l.length cap]⟩] := by exact Hf.reidx [2, 3] (by decide) rfl
            refine OPS.nil ?_
            refine ⟨(by exact H), ?_⟩
            refine OPH.all [8] (by kernel_rfl) (by simp) rfl ?_
            intro i hi; simp only [List.mem_cons, List.not_mem_nil, or_false] at hi
            rcases hi with rfl
            · refine ⟨_, rfl, ?_⟩
              try replace Hf := Hf.toBelow hbw3
              refine OPS.append (m := 1) (news := arcCells a) rfl rfl rfl rfl rfl (sl_run rfl) rfl rfl hO rfl (by exact src_own Hf 0 rfl) rfl (by omega) (by unfold maxLen; omega) Hf (List.Perm.refl _) ?_
              clear H Hf hO; intro A3 cap3 Lo w hO Hf
              have H : SH w0 [] w [⟨g9, 46, arcCells a⟩, ⟨g5, 24, [I n, .slice A l.length cap]⟩] := by exact Hf.reidx [2, 3] (by decide) rfl
              refine OPS.nil ?_
              refine ⟨(by exact H), ?_⟩
              refine OPH.take 9 rfl rfl rfl rfl (by kernel_rfl) (by kernel_rfl) (by kernel_rfl) rfl (by exact H) (fun w H => Ev.build (bld_24_0_1 rfl rfl)) ?_
              refine OPH.all [11] (by kernel_rfl) (by simp) rfl ?_
              intro i hi; simp only [List.mem_cons, List.not_mem_nil, or_false] at hi
              rcases hi with rfl
              · refine ⟨_, rfl, ?_⟩
                refine OPS.store (b := ⟨g11, _, _⟩) 1 _ rfl rfl rfl (size_run rfl) rfl (cA rfl) rfl rfl Hf rfl (by simp) ?_
                clear H Hf; intro w Hf
                simp only [List.set_cons_zero, List.set_cons_succ, List.cons_append, List.nil_append, putL] at Hf
                have H : SH w0 [] w [⟨g9, 46, arcCells a⟩, ⟨g5, 24, [I n, .slice A l.length cap]⟩] := by exact Hf.reidx [2, 3] (by decide) rfl
                refine OPS.nil ?_
                refine ⟨(by exact H), ?_⟩
                refine OPH.done (by kernel_rfl) ?_
                exact ⟨(by repeat (first | exact Agree.refl _ _ | exact Agree.mix _ _ _ | refine Agree.upd rfl ?_ | refine Agree.mix2 rfl ?_)), g11, _, _, Lo, rfl, hO, by exact Hf.reidxT (L := [_, _, _, _]) [1, 2, 3] (by decide) rfl⟩
    · refine ⟨_, rfl, ?_⟩
      try replace Hf := Hf.toBelow hbw3
      refine OPS.buildSlice rfl rfl rfl rfl (bsl_22_1_0 rfl) Hf ?_
      clear H Hf; intro g31 w Hf
      rw [← List.cons_append] at Hf
      have H : SH w0 [] w [⟨g9, 46, arcCells a⟩, ⟨g5, 24, [I n, .slice A l.length cap]⟩] := by exact Hf.reidx [1, 2] (by decide) rfl
      refine OPS.nil ?_
      refine ⟨(by exact H), ?_⟩
      refine OPH.all [2, 10] (by kernel_rfl) (by simp) rfl ?_
      intro i hi; simp only [List.mem_cons, List.not_mem_nil, or_false] at hi
      rcases hi with rfl | rfl
      · refine ⟨_, rfl, ?_⟩
        try replace Hf := Hf.toBelow hbw3
        refine OPS.buildSlice rfl rfl rfl rfl (bsl_22_0_ (e := fun _ => .int .i64 0)) Hf ?_
        clear H Hf; intro g26 w Hf
        replace Hf := Hf.perm (List.perm_append_comm (l₁ := [_]))
        try simp only [List.append_nil] at Hf
        have hO : OwnS (some ⟨g26, 0, none⟩) 0 0 [] 46 4 [⟨g26, 46, []⟩] := ⟨rfl, .inr ⟨g26, [], rfl, rfl, Nat.le_refl _, by unfold maxLen; omega, rfl⟩⟩
        have H : SH w0 [] w [⟨g9, 46, arcCells a⟩, ⟨g5, 24, [I n, .slice A l.length cap]⟩] := by exact Hf.reidx [1, 2] (by decide) rfl
        refine OPS.nil ?_
        refine ⟨(by exact H), ?_⟩
        refine OPH.all [5, 10] (by kernel_rfl) (by simp) rfl ?_
        intro i hi; simp only [List.mem_cons, List.not_mem_nil, or_false] at hi
        rcases hi with rfl | rfl
        · refine ⟨_, rfl, ?_⟩
          try replace Hf := Hf.toBelow hbw3
          refine OPS.appendE (m := l.length) (news := l.flatMap arcCells) rfl rfl rfl rfl rfl (sl_run rfl) rfl rfl hO (rows_length arcCells_len l) (hsrc w H) (arcs_one l) (by omega) (by unfold maxLen; omega) Hf (List.Perm.refl _) ?_
          clear H Hf hO; intro A2 cap2 Lo w hO Hf
          have H : SH w0 [] w [⟨g9, 46, arcCells a⟩, ⟨g5, 24, [I n, .slice A l.length cap]⟩] := by exact Hf.reidx [1, 2] (by decide) rfl
          refine OPS.nil ?_
          refine ⟨(by exact H), ?_⟩
          refine OPH.all [8, 10] (by kernel_rfl) (by simp) rfl ?_
          intro i hi; simp only [List.mem_cons, List.not_mem_nil, or_false] at hi
          rcases hi with rfl | rfl
          · refine ⟨_, rfl, ?_⟩
            try replace Hf := Hf.toBelow hbw3
            refine OPS.append (m := 1) (news := arcCells a) rfl rfl rfl rfl rfl (sl_run rfl) rfl rfl hO rfl (by exact src_own Hf 0 rfl) rfl (by omega) (by unfold maxLen; omega) Hf (List.Perm.refl _) ?_
            clear H Hf hO; intro A3 cap3 Lo w hO Hf
            have H : SH w0 [] w [⟨g9, 46, arcCells a⟩, ⟨g5, 24, [I n, .slice A l.length cap]⟩] := by exact Hf.reidx [1, 2] (by decide) rfl
            refine OPS.nil ?_
            refine ⟨(by exact H), ?_⟩
            refine OPH.take 9 rfl rfl rfl rfl (by kernel_rfl) (by kernel_rfl) (by kernel_rfl) rfl (by exact H) (fun w H => Ev.build (bld_24_0_1 rfl rfl)) ?_
            refine OPH.all [10] (by kernel_rfl) (by simp) rfl ?_
            intro i hi; simp only [List.mem_cons, List.not_mem_nil, or_false] at hi
            rcases hi with rfl
            · refine ⟨_, rfl, ?_⟩
              try replace Hf := Hf.toBelow hbw3
              refine OPS.alloc rfl rfl rfl rfl (zero_run rfl) rfl Hf ?_
              clear H Hf; intro g11 w Hf
              rw [← List.cons_append] at Hf
              have H : SH w0 [] w [⟨g9, 46, arcCells a⟩, ⟨g5, 24, [I n, .slice A l.length cap]⟩] := by exact Hf.reidx [2, 3] (by decide) rfl
              refine OPS.nil ?_
              refine ⟨(by exact H), ?_⟩
              refine OPH.all [11] (by kernel_rfl) (by simp) rfl ?_
              intro i hi; simp only [List.mem_cons, List.not_mem_nil, or_false] at hi
              rcases hi with rfl
              · refine ⟨_, rfl, ?_⟩
                refine OPS.store (b := ⟨g11, _, _⟩) 0 _ rfl rfl rfl (size_run rfl) rfl (cA rfl) rfl rfl Hf rfl (by simp) ?_
                clear H Hf; intro w Hf
                simp only [List.set_cons_zero, List.set_cons_succ, List.cons_append, List.nil_append, putL] at Hf
                have H : SH w0 [] w [⟨g9, 46, arcCells a⟩, ⟨g5, 24, [I n, .slice A l.length cap]⟩] := by exact Hf.reidx [2, 3] (by decide) rfl
                refine OPS.nil ?_
                refine ⟨(by exact H), ?_⟩
                refine OPH.done (by kernel_rfl) ?_
                exact ⟨(by repeat (first | exact Agree.refl _ _ | exact Agree.mix _ _ _ | refine Agree.upd rfl ?_ | refine Agree.mix2 rfl ?_)), g11, _, _, Lo, rfl, hO, by exact Hf.reidxT (L := [_, _, _, _]) [0, 2, 3] (by decide) rfl⟩
          · refine ⟨_, rfl, ?_⟩
            try replace Hf := Hf.toBelow hbw3
            refine OPS.alloc rfl rfl rfl rfl (zero_run rfl) rfl Hf ?_
            clear H Hf; intro g11 w Hf
            rw [← List.cons_append] at Hf
            have H : SH w0 [] w [⟨g9, 46, arcCells a⟩, ⟨g5, 24, [I n, .slice A l.length cap]⟩] := by exact Hf.reidx [2, 3] (by decide) rfl
            refine OPS.nil ?_
            refine ⟨(by exact H), ?_⟩
            refine OPH.all [8] (by kernel_rfl) (by simp) rfl ?_
            intro i hi; simp only [List.mem_cons, List.not_mem_nil, or_false] at hi
            rcases hi with rfl
            · refine ⟨_, rfl, ?_⟩
              try replace Hf := Hf.toBelow hbw3
              refine OPS.append (m := 1) (news := arcCells a) rfl rfl rfl rfl rfl (sl_run rfl) rfl rfl hO rfl (by exact src_own Hf 1 rfl) rfl (by omega) (by unfold maxLen; omega) Hf (List.Perm.refl _) ?_
              clear H Hf hO; intro A3 cap3 Lo w hO Hf
              have H : SH w0 [] w [⟨g9, 46, arcCells a⟩, ⟨g5, 24, [I n, .slice A l.length cap]⟩] := by exact Hf.reidx [2, 3] (by decide) rfl
              refine OPS.nil ?_
              refine ⟨(by exact H), ?_⟩
              refine OPH.take 9 rfl rfl rfl rfl (by kernel_rfl) (by kernel_rfl) (by kernel_rfl) rfl (by exact H) (fun w H => Ev.build (bld_24_0_1 rfl rfl)) ?_
              refine OPH.all [11] (by kernel_rfl) (by simp) rfl ?_
              intro i hi; simp only [List.mem_cons, List.not_mem_nil, or_false] at hi
              rcases hi with rfl
              · refine ⟨_, rfl, ?_⟩
                refine OPS.store (b := ⟨g11, _, _⟩) 0 _ rfl rfl rfl (size_run rfl) rfl (cA rfl) rfl rfl Hf rfl (by simp) ?_
                clear H Hf; intro w Hf
                simp only [List.set_cons_zero, List.set_cons_succ, List.cons_append, List.nil_append, putL] at Hf
                have H : SH w0 [] w [⟨g9, 46, arcCells a⟩, ⟨g5, 24, [I n, .slice A l.length cap]⟩] := by exact Hf.reidx [2, 3] (by decide) rfl
                refine OPS.nil ?_
                refine ⟨(by exact H), ?_⟩
                refine OPH.done (by kernel_rfl) ?_
                exact ⟨(by repeat (first | exact Agree.refl _ _ | exact Agree.mix _ _ _ | refine Agree.upd rfl ?_ | refine Agree.mix2 rfl ?_)), g11, _, _, Lo, rfl, hO, by exact Hf.reidxT (L := [_, _, _, _]) [0, 2, 3] (by decide) rfl⟩
        · refine ⟨_, rfl, ?_⟩
          try replace Hf := Hf.toBelow hbw3
          refine OPS.alloc rfl rfl rfl rfl (zero_run rfl) rfl Hf ?_
          clear H Hf; intro g11 w Hf
          rw [← List.cons_append] at Hf
          have H : SH w0 [] w [⟨g9, 46, arcCells a⟩, ⟨g5, 24, [I n, .slice A l.length cap]⟩] := by exact Hf.reidx [2, 3] (by decide) rfl
          refine OPS.nil ?_
          refine ⟨(by exact H), ?_⟩
          refine OPH.all [5] (by kernel_rfl) (by simp) rfl ?_
          intro i hi; simp only [List.mem_cons, List.not_mem_nil, or_false] at hi
          rcases hi with rfl
          · refine ⟨_, rfl, ?_⟩
            try replace Hf := Hf.toBelow hbw3
            refine OPS.appendE (m := l.length) (news := l.flatMap arcCells) rfl rfl rfl rfl rfl (sl_run rfl) rfl rfl hO (rows_length arcCells_len l) (hsrc w H) (arcs_one l) (by omega) (by unfold maxLen; omega) Hf (List.Perm.refl _) ?_
            clear H Hf hO; intro A2 cap2 Lo w hO Hf
            have H : SH w0 [] w [⟨g9, 46, arcCells a⟩, ⟨g5, 24, [I n, .slice A l.length cap]⟩] := by exact Hf.reidx [2, 3] (by decide) rfl
            refine OPS.nil ?_
            refine ⟨(by exact H), ?_⟩
            refine OPH.all [8] (by kernel_rfl) (by simp) rfl ?_
            intro i hi; simp only [List.mem_cons, List.not_mem_nil, or_false] at hi
            rcases hi with rfl
            · refine ⟨_, rfl, ?_⟩
              try replace Hf := Hf.toBelow hbw3
              refine OPS.append (m := 1) (news := arcCells a) rfl rfl rfl rfl rfl (sl_run rfl) rfl rfl hO rfl (by exact src_own Hf 1 rfl) rfl (by omega) (by unfold maxLen; omega) Hf (List.Perm.refl _) ?_
              clear H Hf hO; intro A3 cap3 Lo w hO Hf
              have H : SH w0 [] w [⟨g9, 46, arcCells a⟩, ⟨g5, 24, [I n, .slice A l.length cap]⟩] := by exact Hf.reidx [2, 3] (by decide) rfl
              refine OPS.nil ?_
              refine ⟨(by exact H), ?_⟩
              refine OPH.take 9 rfl rfl rfl rfl (by kernel_rfl) (by kernel_rfl) (by kernel_rfl) rfl (by exact H) (fun w H => Ev.build (bld_24_0_1 rfl rfl)) ?_
              refine OPH.all [11] (by kernel_rfl) (by simp) rfl ?_
              intro i hi; simp only [List.mem_cons, List.not_mem_nil, or_false] at hi
              rcases hi with rfl
              · refine ⟨_, rfl, ?_⟩
                refine OPS.store (b := ⟨g11, _, _⟩) 0 _ rfl rfl rfl (size_run rfl) rfl (cA rfl) rfl rfl Hf rfl (by simp) ?_
                clear H Hf; intro w Hf
                simp only [List.set_cons_zero, List.set_cons_succ, List.cons_append, List.nil_append, putL] at Hf
                have H : SH w0 [] w [⟨g9, 46, arcCells a⟩, ⟨g5, 24, [I n, .slice A l.length cap]⟩] := by exact Hf.reidx [2, 3] (by decide) rfl
                refine OPS.nil ?_
                refine ⟨(by exact H), ?_⟩
                refine OPH.done (by kernel_rfl) ?_
                exact ⟨(by repeat (first | exact Agree.refl _ _ | exact Agree.mix _ _ _ | refine Agree.upd rfl ?_ | refine Agree.mix2 rfl ?_)), g11, _, _, Lo, rfl, hO, by exact Hf.reidxT (L := [_, _, _, _]) [0, 2, 3] (by decide) rfl⟩
      · refine ⟨_, rfl, ?_⟩
        try replace Hf := Hf.toBelow hbw3
        refine OPS.alloc rfl rfl rfl rfl (zero_run rfl) rfl Hf ?_
        clear H Hf; intro g11 w Hf
        rw [← List.cons_append] at Hf
        have H : SH w0 [] w [⟨g9, 46, arcCells a⟩, ⟨g5, 24, [I n, .slice A l.length cap]⟩] := by exact Hf.reidx [2, 3] (by decide) rfl
        refine OPS.nil ?_
        refine ⟨(by exact H), ?_⟩
        refine OPH.all [2] (by kernel_rfl) (by simp) rfl ?_
        intro i hi; simp only [List.mem_cons, List.not_mem_nil, or_false] at hi
        rcases hi with rfl
        · refine ⟨_, rfl, ?_⟩
          try replace Hf := Hf.toBelow hbw3
          refine OPS.buildSlice rfl rfl rfl rfl (bsl_22_0_ (e := fun _ => .int .i64 0)) Hf ?_
          clear H Hf; intro g26 w Hf
          replace Hf := Hf.perm (List.perm_append_comm (l₁ := [_]))
          try simp only [List.append_nil] at Hf
          have hO : OwnS (some ⟨g26, 0, none⟩) 0 0 [] 46 4 [⟨g26, 46, []⟩] := ⟨rfl, .inr ⟨g26, [], rfl, rfl, Nat.le_refl _, by unfold maxLen; omega, rfl⟩⟩
          have H : SH w0 [] w [⟨g9, 46, arcCells a⟩, ⟨g5, 24, [I n, .slice A l.length cap]⟩] := by exact Hf.reidx [2, 3] (by decide) rfl
          refine OPS.nil ?_
          refine ⟨(by exact H), ?_⟩
          refine OPH.all [5] (by kernel_rfl) (by simp) rfl ?_
          intro i hi; simp only [List.mem_cons, List.not_mem_nil, or_false] at hi
          rcases hi with rfl
          · refine ⟨_, rfl, ?_⟩
            try replace Hf := Hf.toBelow hbw3
            refine OPS.appendE (m := l.length) (news := l.flatMap arcCells) rfl rfl rfl rfl rfl (sl_run rfl) rfl rfl hO (rows_length arcCells_len l) (hsrc w H) (arcs_one l) (by omega) (by unfold maxLen; omega) Hf (List.Perm.refl _) ?_
            clear H Hf hO; intro A2 cap2 Lo w hO Hf
            have H : SH w0 [] w [⟨g9, 46, arcCells a⟩, ⟨g5, 24, [I n, .slice A l.length cap]⟩] := by exact Hf.reidx [2, 3] (by decide) rfl
            refine OPS.nil ?_
            refine ⟨(by exact H), ?_⟩
            refine OPH.all [8] (by kernel_rfl) (by simp) rfl ?_
            intro i hi; simp only [List.mem_cons, List.not_mem_nil, or_false] at hi
            rcases hi with rfl
            · refine ⟨_, rfl, ?_⟩
              try replace Hf := Hf.toBelow hbw3
              refine OPS.append (m := 1) (news := arcCells a) rfl rfl rfl rfl rfl (sl_run rfl) rfl rfl hO rfl (by exact src_own Hf 1 rfl) rfl (by omega) (by unfold maxLen; omega) Hf (List.Perm.refl _) ?_
              clear H Hf hO; intro A3 cap3 Lo w hO Hf
              have H : SH w0 [] w [⟨g9, 46, arcCells a⟩, ⟨g5, 24, [I n, .slice A l.length cap]⟩] := by exact Hf.reidx [2, 3] (by decide) rfl
              refine OPS.nil ?_
              refine ⟨(by exact H), ?_⟩
              refine OPH.take 9 rfl rfl rfl rfl (by kernel_rfl) (by kernel_rfl) (by kernel_rfl) rfl (by exact H) (fun w H => Ev.build (bld_24_0_1 rfl rfl)) ?_
              refine OPH.all [11] (by kernel_rfl) (by simp) rfl ?_
              intro i hi; simp only [List.mem_cons, List.not_mem_nil, or_false] at hi
              rcases hi with rfl
              · refine ⟨_, rfl, ?_⟩
                refine OPS.store (b := ⟨g11, _, _⟩) 0 _ rfl rfl rfl (size_run rfl) rfl (cA rfl) rfl rfl Hf rfl (by simp) ?_
                clear H Hf; intro w Hf
                simp only [List.set_cons_zero, List.set_cons_succ, List.cons_append, List.nil_append, putL] at Hf
                have H : SH w0 [] w [⟨g9, 46, arcCells a⟩, ⟨g5, 24, [I n, .slice A l.length cap]⟩] := by exact Hf.reidx [2, 3] (by decide) rfl
                refine OPS.nil ?_
                refine ⟨(by exact H), ?_⟩
                refine OPH.done (by kernel_rfl) ?_
                exact ⟨(by repeat (first | exact Agree.refl _ _ | exact Agree.mix _ _ _ | refine Agree.upd rfl ?_ | refine Agree.mix2 rfl ?_)), g11, _, _, Lo, rfl, hO, by exact Hf.reidxT (L := [_, _, _, _]) [0, 2, 3] (by decide) rfl⟩
    · refine ⟨_, rfl, ?_⟩
      try replace Hf := Hf.toBelow hbw3
      refine OPS.alloc rfl rfl rfl rfl (zero_run rfl) rfl Hf ?_
      clear H Hf; intro g11 w Hf
      rw [← List.cons_append] at Hf
      have H : SH w0 [] w [⟨g9, 46, arcCells a⟩, ⟨g5, 24, [I n, .slice A l.length cap]⟩] := by exact Hf.reidx [1, 2] (by decide) rfl
      refine OPS.nil ?_
      refine ⟨(by exact H), ?_⟩
      refine OPH.all [2, 7] (by kernel_rfl) (by simp) rfl ?_
      intro i hi; simp only [List.mem_cons, List.not_mem_nil, or_false] at hi
      rcases hi with rfl | rfl
      · refine ⟨_, rfl, ?_⟩
        try replace Hf := Hf.toBelow hbw3
        refine OPS.buildSlice rfl rfl rfl rfl (bsl_22_0_ (e := fun _ => .int .i64 0)) Hf ?_
        clear H Hf; intro g26 w Hf
        replace Hf := Hf.perm (List.perm_append_comm (l₁ := [_]))
        try simp only [List.append_nil] at Hf
        have hO : OwnS (some ⟨g26, 0, none⟩) 0 0 [] 46 4 [⟨g26, 46, []⟩] := ⟨rfl, .inr ⟨g26, [], rfl, rfl, Nat.le_refl _, by unfold maxLen; omega, rfl⟩⟩
        have H : SH w0 [] w [⟨g9, 46, arcCells a⟩, ⟨g5, 24, [I n, .slice A l.length cap]⟩] := by exact Hf.reidx [1, 2] (by decide) rfl
        refine OPS.nil ?_
        refine ⟨(by exact H), ?_⟩
        refine OPH.all [5, 7] (by kernel_rfl) (by simp) rfl ?_
        intro i hi; simp only [List.mem_cons, List.not_mem_nil, or_false] at hi
        rcases hi with rfl | rfl
        · refine ⟨_, rfl, ?_⟩
          try replace Hf := Hf.toBelow hbw3
          refine OPS.appendE (m := l.length) (news := l.flatMap arcCells) rfl rfl rfl rfl rfl (sl_run rfl) rfl rfl hO (rows_length arcCells_len l) (hsrc w H) (arcs_one l) (by omega) (by unfold maxLen; omega) Hf (List.Perm.refl _) ?_
          clear H Hf hO; intro A2 cap2 Lo w hO Hf
          have H : SH w0 [] w [⟨g9, 46, arcCells a⟩, ⟨g5, 24, [I n, .slice A l.length cap]⟩] := by exact Hf.reidx [1, 2] (by decide) rfl
          refine OPS.nil ?_
          refine ⟨(by exact H), ?_⟩
          refine OPH.all [7] (by kernel_rfl) (by simp) rfl ?_
          intro i hi; simp only [List.mem_cons, List.not_mem_nil, or_false] at hi
          rcases hi with rfl
          · refine ⟨_, rfl, ?_⟩
            try replace Hf := Hf.toBelow hbw3
            refine OPS.buildSlice rfl rfl rfl rfl (bsl_22_1_0 rfl) Hf ?_
            clear H Hf; intro g31 w Hf
            rw [← List.cons_append] at Hf
            have H : SH w0 [] w [⟨g9, 46, arcCells a⟩, ⟨g5, 24, [I n, .slice A l.length cap]⟩] := by exact Hf.reidx [2, 3] (by decide) rfl
            refine OPS.nil ?_
            refine ⟨(by exact H), ?_⟩
            refine OPH.all [8] (by kernel_rfl) (by simp) rfl ?_
            intro i hi; simp only [List.mem_cons, List.not_mem_nil, or_false] at hi
            rcases hi with rfl
            · refine ⟨_, rfl, ?_⟩
              try replace Hf := Hf.toBelow hbw3
              refine OPS.append (m := 1) (news := arcCells a) rfl rfl rfl rfl rfl (sl_run rfl) rfl rfl hO rfl (by exact src_own Hf 0 rfl) rfl (by omega) (by unfold maxLen; omega) Hf (List.Perm.refl _) ?_
              clear H Hf hO; intro A3 cap3 Lo w hO Hf
              have H : SH w0 [] w [⟨g9, 46, arcCells a⟩, ⟨g5, 24, [I n, .slice A l.length cap]⟩] := by exact Hf.reidx [2, 3] (by decide) rfl
              refine OPS.nil ?_
              refine ⟨(by exact H), ?_⟩
              refine OPH.take 9 rfl rfl rfl rfl (by kernel_rfl) (by kernel_rfl) (by kernel_rfl) rfl (by exact H) (fun w H => Ev.build (bld_24_0_1 rfl rfl)) ?_
              refine OPH.all [11] (by kernel_rfl) (by simp) rfl ?_
              intro i hi; simp only [List.mem_cons, List.not_mem_nil, or_false] at hi
              rcases hi with rfl
              · refine ⟨_, rfl, ?_⟩
                refine OPS.store (b := ⟨g11, _, _⟩) 1 _ rfl rfl rfl (size_run rfl) rfl (cA rfl) rfl rfl Hf rfl (by simp) ?_
                clear H Hf; intro w Hf
                simp only [List.set_cons_zero, List.set_cons_succ, List.cons_append, List.nil_append, putL] at Hf
                have H : SH w0 [] w [⟨g9, 46, arcCells a⟩, ⟨g5, 24, [I n, .slice A l.length cap]⟩] := by exact Hf.reidx [2, 3] (by decide) rfl
                refine OPS.nil ?_
                refine ⟨(by exact H), ?_⟩
                refine OPH.done (by kernel_rfl) ?_
                exact ⟨(by repeat (first | exact Agree.refl _ _ | exact Agree.mix _ _ _ | refine Agree.upd rfl ?_ | refine Agree.mix2 rfl ?_)), g11, _, _, Lo, rfl, hO, by exact Hf.reidxT (L := [_, _, _, _]) [1, 2, 3] (by decide) rfl⟩
        · refine ⟨_, rfl, ?_⟩
          try replace Hf := Hf.toBelow hbw3
          refine OPS.buildSlice rfl rfl rfl rfl (bsl_22_1_0 rfl) Hf ?_
          clear H Hf; intro g31 w Hf
          rw [← List.cons_append] at Hf
          have H : SH w0 [] w [⟨g9, 46, arcCells a⟩, ⟨g5, 24, [I n, .slice A l.length cap]⟩] := by exact Hf.reidx [2, 3] (by decide) rfl
          refine OPS.nil ?_
          refine ⟨(by exact H), ?_⟩
          refine OPH.all [5] (by kernel_rfl) (by simp) rfl ?_
          intro i hi; simp only [List.mem_cons, List.not_mem_nil, or_false] at hi
          rcases hi with rfl
          · refine ⟨_, rfl, ?_⟩
            try replace Hf := Hf.toBelow hbw3
            refine OPS.appendE (m := l.length) (news := l.flatMap arcCells) rfl rfl rfl rfl rfl (sl_run rfl) rfl rfl hO (rows_length arcCells_len l) (hsrc w H) (arcs_one l) (by omega) (by unfold maxLen; omega) Hf (List.Perm.refl _) ?_
            clear H Hf hO; intro A2 cap2 Lo w hO Hf
            have H : SH w0 [] w [⟨g9, 46, arcCells a⟩, ⟨g5, 24, [I n, .slice A l.length cap]⟩] := by exact Hf.reidx [2, 3] (by decide) rfl
            refine OPS.nil ?_
            refine ⟨(by exact H), ?_⟩
            refine OPH.all [8] (by kernel_rfl) (by simp) rfl ?_
            intro i hi; simp only [List.mem_cons, List.not_mem_nil, or_false] at hi
            rcases hi with rfl
            · refine ⟨_, rfl, ?_⟩
              try replace Hf := Hf.toBelow hbw3
              refine OPS.append (m := 1) (news := arcCells a) rfl rfl rfl rfl rfl (sl_run rfl) rfl rfl hO rfl (by exact src_own Hf 0 rfl) rfl (by omega) (by unfold maxLen; omega) Hf (List.Perm.refl _) ?_
              clear H Hf hO; intro A3 cap3 Lo w hO Hf
              have H : SH w0 [] w [⟨g9, 46, arcCells a⟩, ⟨g5, 24, [I n, .slice A l.length cap]⟩] := by exact Hf.reidx [2, 3] (by decide) rfl
              refine OPS.nil ?_
              refine ⟨(by exact H), ?_⟩
              refine OPH.take 9 rfl rfl rfl rfl (by kernel_rfl) (by kernel_rfl) (by kernel_rfl) rfl (by exact H) (fun w H => Ev.build (bld_24_0_1 rfl rfl)) ?_
              refine OPH.all [11] (by kernel_rfl) (by simp) rfl ?_
              intro i hi; simp only [List.mem_cons, List.not_mem_nil, or_false] at hi
              rcases hi with rfl
              · refine ⟨_, rfl, ?_⟩
                refine OPS.store (b := ⟨g11, _, _⟩) 1 _ rfl rfl rfl (size_run rfl) rfl (cA rfl) rfl rfl Hf rfl (by simp) ?_
                clear H Hf; intro w Hf
                simp only [List.set_cons_zero, List.set_cons_succ, List.cons_append, List.nil_append, putL] at Hf
                have H : SH w0 [] w [⟨g9, 46, arcCells a⟩, ⟨g5, 24, [I n, .slice A l.length cap]⟩] := by exact Hf.reidx [2, 3] (by decide) rfl
                refine OPS.nil ?_
                refine ⟨(by exact H), ?_⟩
                refine OPH.done (by kernel_rfl) ?_
                exact ⟨(by repeat (first | exact Agree.refl _ _ | exact Agree.mix _ _ _ | refine Agree.upd rfl ?_ | refine Agree.mix2 rfl ?_)), g11, _, _, Lo, rfl, hO, by exact Hf.reidxT (L := [_, _, _, _]) [1, 2, 3] (by decide) rfl⟩
      · refine ⟨_, rfl, ?_⟩
        try replace Hf := Hf.toBelow hbw3
        refine OPS.buildSlice rfl rfl rfl rfl (bsl_22_1_0 rfl) Hf ?_
        clear H Hf; intro g31 w Hf
        rw [← List.cons_append] at Hf
        have H : SH w0 [] w [⟨g9, 46, arcCells a⟩, ⟨g5, 24, [I n, .slice A l.length cap]⟩] := by exact Hf.reidx [2, 3] (by decide) rfl
        refine OPS.nil ?_
        refine ⟨(by exact H), ?_⟩
        refine OPH.all [2] (by kernel_rfl) (by simp) rfl ?_
        intro i hi; simp only [List.mem_cons, List.not_mem_nil, or_false] at hi
        rcases hi with rfl
        · refine ⟨_, rfl, ?_⟩
          try replace Hf := Hf.toBelow hbw3
          refine OPS.buildSlice rfl rfl rfl rfl (bsl_22_0_ (e := fun _ => .int .i64 0)) Hf ?_
          clear H Hf; intro g26 w Hf
          replace Hf := Hf.perm (List.perm_append_comm (l₁ := [_]))
          try simp only [List.append_nil] at Hf
          have hO : OwnS (some ⟨g26, 0, none⟩) 0 0 [] 46 4 [⟨g26, 46, []⟩] := ⟨rfl, .inr ⟨g26, [], rfl, rfl, Nat.le_refl _, by unfold maxLen; omega, rfl⟩⟩
          have H : SH w0 [] w [⟨g9, 46, arcCells a⟩, ⟨g5, 24, [I n, .slice A l.length cap]⟩] := by exact Hf.reidx [2, 3] (by decide) rfl
          refine OPS.nil ?_
          refine ⟨(by exact H), ?_⟩
          refine OPH.all [5] (by kernel_rfl) (by simp) rfl ?_
          intro i hi; simp only [List.mem_cons, List.not_mem_nil, or_false] at hi
          rcases hi with rfl
          · refine ⟨_, rfl, ?_⟩
            try replace Hf := Hf.toBelow hbw3
            refine OPS.appendE (m := l.length) (news := l.flatMap arcCells) rfl rfl rfl rfl rfl (sl_run rfl) rfl rfl hO (rows_length arcCells_len l) (hsrc w H) (arcs_one l) (by omega) (by unfold maxLen; omega) Hf (List.Perm.refl _) ?_
            clear H Hf hO; intro A2 cap2 Lo w hO Hf
            have H : SH w0 [] w [⟨g9, 46, arcCells a⟩, ⟨g5, 24, [I n, .slice A l.length cap]⟩] := by exact Hf.reidx [2, 3] (by decide) rfl
            refine OPS.nil ?_
            refine ⟨(by exact H), ?_⟩
            refine OPH.all [8] (by kernel_rfl) (by simp) rfl ?_
            intro i hi; simp only [List.mem_cons, List.not_mem_nil, or_false] at hi
            rcases hi with rfl
            · refine ⟨_, rfl, ?_⟩
              try replace Hf := Hf.toBelow hbw3
              refine OPS.append (m := 1) (news := arcCells a) rfl rfl rfl rfl rfl (sl_run rfl) rfl rfl hO rfl (by exact src_own Hf 0 rfl) rfl (by omega) (by unfold maxLen; omega) Hf (List.Perm.refl _) ?_
              clear H Hf hO; intro A3 cap3 Lo w hO Hf
              have H : SH w0 [] w [⟨g9, 46, arcCells a⟩, ⟨g5, 24, [I n, .slice A l.length cap]⟩] := by exact Hf.reidx [2, 3] (by decide) rfl
              refine OPS.nil ?_
              refine ⟨(by exact H), ?_⟩
              refine OPH.take 9 rfl rfl rfl rfl (by kernel_rfl) (by kernel_rfl) (by kernel_rfl) rfl (by exact H) (fun w H => Ev.build (bld_24_0_1 rfl rfl)) ?_
              refine OPH.all [11] (by kernel_rfl) (by simp) rfl ?_
              intro i hi; simp only [List.mem_cons, List.not_mem_nil, or_false] at hi
              rcases hi with rfl
              · refine ⟨_, rfl, ?_⟩
                refine OPS.store (b := ⟨g11, _, _⟩) 1 _ rfl rfl rfl (size_run rfl) rfl (cA rfl) rfl rfl Hf rfl (by simp) ?_
                clear H Hf; intro w Hf
                simp only [List.set_cons_zero, List.set_cons_succ, List.cons_append, List.nil_append, putL] at Hf
                have H : SH w0 [] w [⟨g9, 46, arcCells a⟩, ⟨g5, 24, [I n, .slice A l.length cap]⟩] := by exact Hf.reidx [2, 3] (by decide) rfl
                refine OPS.nil ?_
                refine ⟨(by exact H), ?_⟩
                refine OPH.done (by kernel_rfl) ?_
                exact ⟨(by repeat (first | exact Agree.refl _ _ | exact Agree.mix _ _ _ | refine Agree.upd rfl ?_ | refine Agree.mix2 rfl ?_)), g11, _, _, Lo, rfl, hO, by exact Hf.reidxT (L := [_, _, _, _]) [1, 2, 3] (by decide) rfl⟩
  clear H
  rintro u w ⟨g11, A3, cap3, Lo3, h11, hO, H⟩
  refine WP.know (t := 11) h11 ?_
  have el2 : (l ++ [a]).flatMap arcCells = [] ++ l.flatMap arcCells ++ arcCells a := by simp
  have ell : (l ++ [a]).length = 0 + l.length + 1 := by simp
  obtain ⟨gL, sp, rfl, rfl, _⟩ : ∃ g sp, A3 = some ⟨g, 0, none⟩ ∧ Lo3 = [⟨g, 46, ([] ++ l.flatMap arcCells ++ arcCells a) ++ sp⟩] ∧ True := by
    rcases hO.form with ⟨_, h, _⟩ | ⟨g, sp, h1, h2, _⟩
    · omega
    · exact ⟨g, sp, h1, h2, trivial⟩
  rw [← el2, ← ell] at H
  have hz2 : ∀ (w : World) (R : List Blk) (i : Nat), SH w0 [] w R → R[i]? = some ⟨gL, 46, (l ++ [a]).flatMap arcCells ++ sp⟩ → ArcsAt w (some ⟨gL, 0, none⟩) (l ++ [a]) := fun w R i H hi => rowsOwn arcCells_len H i hi
  generalize hl2 : l ++ [a] = l2 at *
  refine WP.seq ?_
  refine WP.seq ?_
  refine WP.region ?_
  refine OPS.val rfl rfl rfl ((by exact Ev.loadO 2 H rfl (agg_run rfl) (size_run rfl) (by rfl) rfl)) ?_
  refine OPS.call (d := some 35) rfl rfl rfl (EvC.func (fun_run rfl)) (flowCheck n A l cap w (hz.sh H)) ?_
  rintro _ w ⟨rfl, hb⟩
  refine ⟨_, rfl, ?_⟩
  replace H := H.toBelow hb; clear hb
  refine OPS.val rfl rfl rfl (Ev.neq rfl rfl) ?_
  refine OPS.val rfl rfl rfl (Ev.mvB rfl) ?_
  refine OPS.gval rfl rfl rfl rfl rfl (fun hg => (by exact Ev.loadO 0 H rfl (agg_run rfl) (size_run rfl) (by rfl) rfl)) ?_
  refine OPS.gcall0 (f := 12) (flowCheck n (some ⟨gL, 0, none⟩) l2 cap3 w (hz2 w _ 3 H rfl)) (fun _ _ h => h) rfl rfl rfl rfl rfl (fun hg => EvC.conv (EvC.func (fun_run rfl)) (l1 (by exact gvE hg rfl))) ?_
  intro w hbc; replace H := H.toBelow hbc
  refine OPS.gval rfl rfl rfl rfl rfl (fun hg => Ev.neq (by exact gvE hg rfl) (by rfl)) ?_
  refine OPS.val rfl rfl rfl ((by exact Ev.pickOr rfl rfl rfl)) ?_
  refine OPS.nil ?_
  refine WP.cond rfl (fun hc4 => ?_) (fun hc4 => ?_)
  · refine WP.seq ?_
    refine WP.region ?_
    refine OPS.call (d := some 42) rfl rfl rfl (EvC.func (fun_run rfl)) (lawAwake w) ?_
    rintro _ w ⟨rfl, hb⟩
    refine ⟨_, rfl, ?_⟩
    replace H := H.toBelow hb; clear hb
    refine OPS.val rfl rfl rfl (Ev.asB rfl) ?_
    refine OPS.nil ?_
    refine WP.ret ⟨_, rfl, ?_⟩
    exact ⟨rfl, H.below⟩
  obtain ⟨n1, n2⟩ : netErr n l = 0 ∧ netErr n l2 = 0 := by simpa using hc4
  refine WP.skip ?_
  refine WP.seq ?_
  refine WP.region ?_
  refine OPS.val rfl rfl rfl ((by exact Ev.loadO 2 H rfl (agg_run rfl) (size_run rfl) (by rfl) rfl)) ?_
  refine OPS.val rfl rfl rfl (Ev.mvI rfl) ?_
  refine OPS.val rfl rfl rfl (Ev.mvI rfl) ?_
  refine OPS.call (d := some 47) rfl rfl rfl (EvC.func (fun_run rfl)) (flowMost n f t A l cap w (hz.sh H)) ?_
  rintro _ w ⟨r1, er1, rfl, hM1, Hc⟩
  refine ⟨_, rfl, ?_⟩
  replace H := H.toBelow Hc
  clear Hc
  refine OPS.val rfl rfl rfl (Ev.mvT rfl) ?_
  refine OPS.val rfl rfl rfl (Ev.extract rfl rfl) ?_
  refine OPS.val rfl rfl rfl (Ev.extract rfl rfl) ?_
  refine OPS.val rfl rfl rfl (Ev.asI rfl) ?_
  refine OPS.val rfl rfl rfl (Ev.asI rfl) ?_
  refine OPS.nil ?_
  refine WP.seq ?_
  refine WP.region ?_
  refine OPS.val rfl rfl rfl ((by exact Ev.loadO 0 H rfl (agg_run rfl) (size_run rfl) (by rfl) rfl)) ?_
  refine OPS.val rfl rfl rfl (Ev.mvI rfl) ?_
  refine OPS.val rfl rfl rfl (Ev.mvI rfl) ?_
  refine OPS.call (d := some 54) rfl rfl rfl (EvC.func (fun_run rfl)) (flowMost n f t (some ⟨gL, 0, none⟩) l2 cap3 w (hz2 w _ 3 H rfl)) ?_
  rintro _ w ⟨r2, er2, rfl, hM2, Hc⟩
  refine ⟨_, rfl, ?_⟩
  replace H := H.toBelow Hc
  clear Hc
  obtain ⟨rfl, hmm⟩ := arcs_most n1 (by rw [hl2]; exact n2) hM1 (by rw [hl2]; exact hM2)
  refine OPS.val rfl rfl rfl (Ev.mvT rfl) ?_
  refine OPS.val rfl rfl rfl (Ev.extract rfl rfl) ?_
  refine OPS.val rfl rfl rfl (Ev.extract rfl rfl) ?_
  refine OPS.val rfl rfl rfl (Ev.asI rfl) ?_
  refine OPS.val rfl rfl rfl (Ev.asI rfl) ?_
  refine OPS.nil ?_
  refine WP.seq ?_
  refine WP.seq ?_
  refine WP.region ?_
  refine OPS.val rfl rfl rfl (Ev.mvI rfl) ?_
  refine OPS.val rfl rfl rfl (Ev.mvI rfl) ?_
  refine OPS.val rfl rfl rfl (Ev.neq rfl rfl) ?_
  refine OPS.val rfl rfl rfl (Ev.mvB rfl) ?_
  refine OPS.gval rfl rfl rfl rfl rfl (fun hg => Ev.mvI (by rfl)) ?_
  refine OPS.gval rfl rfl rfl rfl rfl (fun hg => Ev.mvI (by rfl)) ?_
  refine OPS.gval rfl rfl rfl rfl rfl (fun hg => Ev.gtr (by exact gvE hg rfl) (by exact gvE hg rfl)) ?_
  refine OPS.val rfl rfl rfl ((by exact Ev.pickOr rfl rfl rfl)) ?_
  refine OPS.nil ?_
  refine WP.cond rfl (fun hc8 => ?_) (fun hc8 => ?_)
  · refine WP.seq ?_
    refine WP.region ?_
    refine OPS.val rfl rfl rfl (Ev.asB rfl) ?_
    refine OPS.nil ?_
    refine WP.ret ⟨_, rfl, ?_⟩
    exact absurd hc8 (by simp [hmm])
  refine WP.skip ?_
  refine WP.seq ?_
  refine WP.region ?_
  refine OPS.val rfl rfl rfl ((by exact Ev.loadO 2 H rfl (agg_run rfl) (size_run rfl) (by rfl) rfl)) ?_
  refine OPS.val rfl rfl rfl (Ev.mvI rfl) ?_
  refine OPS.val rfl rfl rfl (Ev.mvI rfl) ?_
  refine OPS.val rfl rfl rfl (Ev.mvI rfl) ?_
  refine OPS.call (d := some 70) rfl rfl rfl (EvC.func (fun_run rfl)) (flowCheapest2 n f t amt A l cap w (hz.sh H)) ?_
  rintro _ w ⟨most1, a1, c1, e1, B1, P1, on1, pots1, Lb1, Lp1, rfl, hR1, _, _, Hc⟩
  refine ⟨_, rfl, ?_⟩
  replace H := H.toBelow Hc.below
  clear Hc
  refine OPS.val rfl rfl rfl (Ev.mvT rfl) ?_
  refine OPS.val rfl rfl rfl (Ev.extract rfl rfl) ?_
  refine OPS.val rfl rfl rfl (Ev.extract rfl rfl) ?_
  refine OPS.alloc rfl rfl rfl rfl (zero_run rfl) rfl H ?_
  clear H; intro g16 w H
  refine OPS.store 0 _ rfl rfl rfl (size_run rfl) rfl (cA rfl) rfl rfl H rfl (by simp) ?_
  clear H; intro w H; try simp only [List.set_cons_zero, List.set_cons_succ, putL, Nat.zero_add] at H
  refine OPS.val rfl rfl rfl (Ev.asI rfl) ?_
  refine OPS.nil ?_
  refine WP.seq ?_
  refine WP.region ?_
  refine OPS.val rfl rfl rfl ((by exact Ev.loadO 1 H rfl (agg_run rfl) (size_run rfl) (by rfl) rfl)) ?_
  refine OPS.val rfl rfl rfl (Ev.mvI rfl) ?_
  refine OPS.val rfl rfl rfl (Ev.mvI rfl) ?_
  refine OPS.val rfl rfl rfl (Ev.mvI rfl) ?_
  refine OPS.call (d := some 78) rfl rfl rfl (EvC.func (fun_run rfl)) (flowCheapest2 n f t amt (some ⟨gL, 0, none⟩) l2 cap3 w (hz2 w _ 4 H rfl)) ?_
  rintro _ w ⟨most2, a2, c2, e2, B2, P2, on2, pots2, Lb2, Lp2, rfl, hR2, _, _, Hc⟩
  refine ⟨_, rfl, ?_⟩
  replace H := H.toBelow Hc.below
  clear Hc
  refine OPS.val rfl rfl rfl (Ev.mvT rfl) ?_
  refine OPS.val rfl rfl rfl (Ev.extract rfl rfl) ?_
  refine OPS.val rfl rfl rfl (Ev.extract rfl rfl) ?_
  refine OPS.alloc rfl rfl rfl rfl (zero_run rfl) rfl H ?_
  clear H; intro g18 w H
  refine OPS.store 0 _ rfl rfl rfl (size_run rfl) rfl (cA rfl) rfl rfl H rfl (by simp) ?_
  clear H; intro w H; try simp only [List.set_cons_zero, List.set_cons_succ, putL, Nat.zero_add] at H
  refine OPS.val rfl rfl rfl (Ev.asI rfl) ?_
  refine OPS.nil ?_
  refine WP.seq ?_
  refine WP.region ?_
  refine OPS.val rfl rfl rfl (Ev.mvI rfl) ?_
  refine OPS.val rfl rfl rfl (Ev.neq rfl rfl) ?_
  refine OPS.val rfl rfl rfl (Ev.mvB rfl) ?_
  refine OPS.gval rfl rfl rfl rfl rfl (fun hg => Ev.mvI (by rfl)) ?_
  refine OPS.gval rfl rfl rfl rfl rfl (fun hg => Ev.eql (by exact gvE hg rfl) (by rfl)) ?_
  refine OPS.gval rfl rfl rfl rfl rfl (fun hg => Ev.mvB (by exact gvE hg rfl)) ?_
  refine OPS.gvalN rfl rfl (GB.g rfl) rfl rfl (fun hg => Ev.fieldAddr (fld_run rfl) (by rfl)) ?_
  refine OPS.gvalN rfl rfl (GB.g rfl) rfl rfl (fun hg => Ev.load1 (agg_run rfl) (by exact gvE hg rfl) (by exact H.ldL 0 rfl _ rfl)) ?_
  refine OPS.gvalN rfl rfl (GB.g rfl) rfl rfl (fun hg => Ev.fieldAddr (fld_run rfl) (by rfl)) ?_
  refine OPS.gvalN rfl rfl (GB.g rfl) rfl rfl (fun hg => Ev.load1 (agg_run rfl) (by exact gvE hg rfl) (by exact H.ldL 1 rfl _ rfl)) ?_
  refine OPS.gvalN rfl rfl (GB.g rfl) rfl rfl (fun hg => Ev.leq (by exact gvE hg rfl) (by exact gvE hg rfl)) ?_
  refine OPS.gval rfl rfl rfl rfl rfl (fun hg => (by exact Ev.pickAnd2 (beqT hg) (gvE hg rfl) rfl rfl)) ?_
  refine OPS.val rfl rfl rfl ((by exact Ev.pickOr rfl rfl rfl)) ?_
  refine OPS.val rfl rfl rfl (Ev.mvB rfl) ?_
  refine OPS.gcall0 (f := 11) (lawAwake w) (fun _ _ h => h) rfl rfl rfl rfl rfl (fun hg => (EvC.func (fun_run rfl))) ?_
  intro w hbc; replace H := H.toBelow hbc
  refine OPS.val rfl rfl rfl ((by exact Ev.pickAnd rfl rfl rfl)) ?_
  refine OPS.val rfl rfl rfl (Ev.asB rfl) ?_
  refine OPS.nil ?_
  refine WP.ret ⟨_, rfl, ?_⟩
  refine ⟨ret_true rfl ?_, H.below⟩
  by_cases hq : e1 = 0
  · obtain ⟨q1, q2⟩ := arcs_cost n1 (by rw [hl2]; exact n2) hR1 (by rw [hl2]; exact hR2) hq
    simp [q1, q2]
  · simp [hq]
end Go.Proofs.Ythegjmgljolalaa
