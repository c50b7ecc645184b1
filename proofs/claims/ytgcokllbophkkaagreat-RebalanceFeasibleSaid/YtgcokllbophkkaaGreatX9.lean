/-
  Walk: the law RebalanceFeasible (the text is printed by wip/tools/mkx9.py).
-/
import Derived.Test.YtgcokllbophkkaaGreatU3
import Derived.Test.YtgcokllbophkkaaGreatPtr
set_option linter.all false
namespace Go.Proofs.YtgcokllbophkkaaGreat
open Go Go.W Go.RowKit
abbrev bR (g : Nat) (r : Int) (X : Option Addr) (n c : Nat) : Blk := ⟨g, 49, [I r, .slice X n c]⟩
abbrev bP (g : Nat) (P : Option Addr) (n c : Nat) (F : Option Addr) (k d : Nat) : Blk := ⟨g, 34, [.slice P n c, .slice F k d]⟩
abbrev bN (g : Nat) (n : Int) (A : Option Addr) (a b : Nat) (B : Option Addr) (c d : Nat) (C : Option Addr) (e f : Nat) (h : Int) : Blk := ⟨g, 28, [I n, .slice A a b, .slice B c d, .slice C e f, I h]⟩
abbrev bM (g : Nat) (l : List Value) : Blk := ⟨g, 3, l⟩
set_option maxHeartbeats 1000000 in
theorem law45Served (P F : Option Addr) (rs : List Rt) (fl cp cf : Nat) (t : Int) (w0 : World) (hP : RtsAt w0 P rs) :
    Calls Tryz.prog 22 #[.agg #[.slice P rs.length cp, .slice F fl cf], I t] w0 fun e w' => ∃ (x : List Int) (X : Option Addr) (c : Nat), e = .returned (.slice X x.length c) ∧ x = servedR (rtL rs) t ∧ (∀ w, RtsAt w P rs → IntsAt w X x) ∧ x.length ≤ 1000 ∧ Below w0.heap.size w0 w' := by
  have H := SH.refl w0
  have hfew := hP.few
  refine Calls.ofWP Tryz.func22 rfl Tryz.results22 Tryz.ntmps22 rfl <| Y.qr <| Y.bx (cA rfl) H ?_
  clear H; intro g2 w H
  refine Y.v (Ev.asS rfl) <| Y.z <| Y.q <| Y.qr <| Y.b rfl <| Y.z <| WP.block <| WP.loop [4, 5, 6, 7, 8, 9, 10, 11, 12, 13, 14, 15, 16, 17, 18, 19, 20, 21, 22, 23, 24, 25, 26] (fun k e w' => ∃ j : Nat, j + k = rs.length ∧ e 5 = I j ∧ servedR (rtL rs) t = servedR ((rtL rs).drop j) t ∧ SH w0 [] w' [⟨g2, 34, [.slice P rs.length cp, .slice F fl cf]⟩]) (rs.length) (⟨0, by omega, rfl, rfl, H⟩) ?_
  clear H
  rintro k u w ⟨j, hk, h5, hsv, H⟩
  refine WP.know (t := 5) h5 <| Y.q <| Y.qr <| Y.a rfl <| Y.fa rfl rfl <| Y.j H 0 rfl rfl rfl <| Y.v (Y.n rfl) <| Y.v (Ev.lss rfl rfl) <| Y.z ?_
  refine WP.cond rfl (fun hc2 => ?_) (fun hc2 => ?_)
  · have hlt : j < rs.length := by simpa using hc2
    have hlt' : j < (rtL rs).length := by rw [rtL_len]; exact hlt
    obtain ⟨b1, o1, rfl, hx⟩ := hP.rows j hlt
    obtain ⟨q1, q2, _⟩ := hx
    have hdr : (rtL rs).drop j = (rs[j].trk, rs[j].nd.l) :: (rtL rs).drop (j + 1) := by
      rw [List.drop_eq_getElem_cons hlt']; simp [rtL]
    rw [hdr] at hsv
    refine Y.k <| Y.q <| WP.block <| Y.qr <| Y.fa rfl rfl <| Y.j H 0 rfl rfl rfl <| Y.a rfl <| Y.v (Y.X rfl rfl rfl rfl rfl) <| Y.fa rfl rfl <| Y.v (Y.c (H.ld0 (by assumption)) rfl) ?_
    refine Y.a rfl <| Y.v (Ev.eql rfl rfl) <| Y.z ?_
    refine WP.cond rfl (fun hc4 => ?_) (fun hc4 => ?_)
    · refine Y.qr <| Y.fa rfl rfl <| Y.j H 0 rfl rfl rfl <| Y.a rfl <| Y.v (Y.X rfl rfl rfl rfl rfl) <| Y.fa rfl rfl <| Y.v (Y.c (H.ld0 (by assumption)) rfl) ?_
      refine Y.v (Ev.asS rfl) <| Y.z ?_
      refine WP.ret ⟨_, rfl, ?_⟩
      have he : rs[j].trk = t := by simpa using hc4
      refine ⟨rs[j].nd.l, rs[j].nd.A, rs[j].nd.cap, rfl, ?_, (fun w h => h.ints _ (List.getElem_mem hlt)), hP.len _ (List.getElem_mem hlt), H.below⟩
      rw [hsv]; unfold servedR; simp [he]
    have he : ¬ rs[j].trk = t := by simpa using hc4
    refine Y.k <| Y.r <| Y.a rfl <| Y.v (Y.p rfl rfl) <| Y.b rfl <| Y.z ?_
    exact ⟨Y.ag, k - 1, by omega, j + 1, by omega, rfl, (by rw [hsv]; unfold servedR; simp [he]), H⟩
  refine WP.exit <| XB.hit <| Y.qr <| Y.v (Ev.asS rfl) <| Y.z ?_
  refine WP.ret ⟨_, rfl, ?_⟩
  have hj : j = rs.length := by simp at hc2; omega
  refine ⟨[], none, 0, rfl, ?_, (fun _ _ => OnesAt.nil), by simp, H.below⟩
  rw [hsv, hj, List.drop_eq_nil_of_le (by rw [rtL_len]; omega)]; rfl
set_option maxHeartbeats 8000000 in
theorem law45Feasible (n hd : Int) (A B C : Option Addr) (l : List Edg) (ts : List Truck) (ns : List Need) (ca cb cc : Nat) (P2 F2 : Option Addr) (rs2 : List Rt) (left2 : List Int) (cp2 cf2 : Nat) (w0 : World) (hN : NightAt w0 A B C l ts ns cc) (hP2 : RtsAt0 w0 P2 rs2) (hF2 : IntsAt w0 F2 left2) :
    Calls Tryz.prog 6 #[.agg #[I n, .slice A l.length ca, .slice B ts.length cb, .slice C ns.length cc, I hd], .agg #[.slice P2 rs2.length cp2, .slice F2 left2.length cf2]] w0 fun e w' => e = .returned (.bool true) ∧ Below w0.heap.size w0 w' := by
  have H := SH.refl w0
  refine Calls.ofWP Tryz.func6 rfl Tryz.results6 Tryz.ntmps6 rfl <| Y.qr <| Y.bx (cA rfl) H ?_
  clear H; intro g2 w H
  refine Y.bx (cA rfl) H ?_
  clear H; intro g3 w H
  refine Y.v (Ev.asB rfl) <| Y.z <| Y.q <| Y.qr <| Y.v (Y.o H 1 rfl rfl) <| OPS.call (d := some 15) rfl rfl rfl (EvC.func (fun_run rfl)) (law45Few n hd A B C l.length ts.length ns.length ca cb cc w) ?_
  rintro _ w ⟨rfl, hb⟩
  refine ⟨_, rfl, ?_⟩
  replace H := H.toBelow hb; clear hb
  refine Y.v (Ev.not rfl) <| Y.v (Ev.mvB rfl) <| Y.g rfl rfl (fun hg => Y.o H 0 rfl rfl) <| OPS.gcall0 (f := 14) (law45Small P2 F2 rs2 left2.length cp2 cf2 w (hP2.rows.sh H)) (fun _ _ h => h) rfl rfl rfl rfl rfl (fun hg => EvC.conv (EvC.func (fun_run rfl)) (l1 (gvE hg rfl))) ?_
  intro w hbc; replace H := H.toBelow hbc
  refine Y.g rfl rfl (fun hg => Ev.not (gvE hg rfl)) <| Y.v (Ev.pickOr rfl rfl rfl) <| Y.z ?_
  refine WP.cond rfl (fun hc1 => ?_) (fun hc1 => ?_)
  · refine Y.qr <| OPS.call (d := some 22) rfl rfl rfl (EvC.func (fun_run rfl)) (law45Awake w) ?_
    rintro _ w ⟨rfl, hb⟩
    refine ⟨_, rfl, ?_⟩
    replace H := H.toBelow hb; clear hb
    refine Y.v (Ev.asB rfl) <| Y.z ?_
    refine WP.ret ⟨_, rfl, ?_⟩
    exact ⟨rfl, H.below⟩
  have hg : few45 l.length ts.length ns.length = true ∧ small45 rs2 left2.length = true := by simpa using hc1
  obtain ⟨hS2, _, hl2⟩ := hP2.small hg.2
  have hnl : ns.length ≤ 9 := (few45_nl hg.1).1
  replace hl2 : left2.length ≤ 1000 := by omega
  refine Y.k <| Y.qr <| Y.v (Y.o H 1 rfl rfl) <| OPS.call (d := some 25) rfl rfl rfl (EvC.func (fun_run rfl)) (rebMake n hd A B C l ts ns ca cb cc w (hN.sh H)) ?_
  rintro _ w ⟨er, rs, left, P, F, cp, cf, L, rfl, hA, hcf, hR, Hc⟩
  refine ⟨_, rfl, ?_⟩
  replace H := SH.call (L1 := _) (Lv := []) (by rw [List.append_nil]; exact H) Hc
  clear Hc
  simp only [List.cons_append, List.nil_append] at H
  refine Y.v (Ev.mvT rfl) <| Y.v (Ev.extract rfl rfl) <| Y.v (Ev.extract rfl rfl) <| Y.al H rfl rfl ?_
  clear H; intro g5 w H
  refine Y.ss 0 H rfl (cA rfl) rfl ?_
  clear H; intro w H
  refine Y.b rfl <| Y.z <| Y.q <| Y.qr <| Y.a rfl <| Y.v (Ev.neq rfl rfl) <| Y.z ?_
  refine WP.cond rfl (fun hc4 => ?_) (fun hc4 => ?_)
  · have he : er ≠ 0 := by simpa using hc4
    obtain ⟨h1, rfl⟩ := hA.bad he
    obtain rfl : rs = [] := by unfold rtL at h1; exact List.map_eq_nil_iff.1 h1
    refine Y.qr <| Y.fa rfl rfl <| Y.j H 0 rfl rfl rfl <| Y.v (Y.n rfl) <| Y.v (Ev.eql rfl rfl) <| Y.v (Ev.mvB rfl) <| Y.g rfl rfl (fun hg => Y.f rfl rfl) <| Y.y rfl rfl H 0 (fun hg => gvE hg rfl) rfl rfl <| Y.g rfl rfl (fun hg => Ev.len (el_run rfl) (gvE hg rfl)) <| Y.g rfl rfl (fun hg => Ev.eql (gvE hg rfl) rfl) <| Y.v (Ev.pickAnd rfl rfl rfl) <| Y.v (Ev.mvB rfl) <| OPS.gcall0 (f := 10) (law45Awake _) (fun _ _ h => h) rfl rfl rfl rfl rfl (fun hg => (EvC.func (fun_run rfl))) ?_
    intro w hbc; replace H := H.toBelow hbc
    refine Y.v (Ev.pickAnd rfl rfl rfl) <| Y.v (Ev.asB rfl) <| Y.z ?_
    refine WP.ret ⟨_, rfl, ?_⟩
    exact ⟨ret_b rfl (by simp), H.below⟩
  have he : er = 0 := by simpa using hc4
  subst he
  obtain ⟨m, rfl, hM⟩ := hA.good rfl
  have hE : nightErr m l ts ns hd = 0 := hA.err.symm
  obtain ⟨m', hm', hK⟩ := nightOk_of hE
  obtain rfl : m = m' := by omega
  have hpl := make_plan hE hM
  have hpR := hM.plan (pos_of hK)
  obtain ⟨hnd, hin, hll⟩ := hM.facts
  have htl := hK.tl
  refine Y.k <| Y.q <| Y.qr <| Y.v (Y.o H 2 rfl rfl) <| Y.v (Y.o H 0 rfl rfl) <| OPS.call (d := some 45) rfl rfl rfl (EvC.func (fun_run rfl)) (truckFeasible m hd A B C P F l ts ns rs left ca cb cc cp cf w (hN.sh H).l (hN.sh H).t (hN.sh H).n hN.c (hR.at H Sb.out).1 (hR.at H Sb.out).2 (by omega) (by omega)) ?_
  rintro _ w ⟨rfl, hb⟩
  refine ⟨_, rfl, ?_⟩
  replace H := H.toBelow hb; clear hb
  refine Y.v (Ev.neq rfl rfl) <| Y.z ?_
  refine WP.cond rfl (fun hc6 => ?_) (fun hc6 => ?_)
  · refine Y.qr <| Y.v (Ev.asB rfl) <| Y.z ?_
    refine WP.ret ⟨_, rfl, ?_⟩
    exact absurd hc6 (by simp [hpl])
  refine Y.k <| Y.q <| Y.qr <| Y.b rfl <| Y.z <| WP.block <| WP.loop [4, 7, 8, 9, 10, 11, 12, 13, 47, 48, 49, 50, 51, 52, 53, 54, 55, 56, 57, 58, 59, 60, 61, 62, 63, 64, 65, 66, 67, 68, 69, 70, 71, 72, 73, 74, 75, 76, 77, 78, 79, 80, 81, 82, 83, 84] (fun k e w' => ∃ j : Nat, j + k = ts.length ∧ e 7 = I j ∧ SH w0 [] w' (bP g5 P rs.length cp F left.length cf :: bP g3 P2 rs2.length cp2 F2 left2.length cf2 :: bN g2 m A l.length ca B ts.length cb C ns.length cc hd :: L)) (ts.length) (⟨0, by omega, rfl, H⟩) ?_
  clear H
  rintro k u w ⟨j, hk, h7, H⟩
  refine WP.know (t := 7) h7 <| Y.q <| Y.qr <| Y.a rfl <| Y.fa rfl rfl <| Y.j H 2 rfl rfl rfl <| Y.v (Y.n rfl) <| Y.v (Ev.lss rfl rfl) <| Y.z ?_
  refine WP.cond rfl (fun hc9 => ?_) (fun hc9 => ?_)
  · have hjl : j < ts.length := by simpa using hc9
    refine Y.k <| Y.q <| WP.block <| Y.qr <| Y.v (Y.o H 0 rfl rfl) <| Y.a rfl <| OPS.call (d := some 56) rfl rfl rfl (EvC.func (fun_run rfl)) (law45Served P F rs left.length cp cf j w (hR.at H Sb.out).1) ?_
    rintro _ w ⟨x, X, c, rfl, hx, hXi, hxl, hb⟩
    refine ⟨_, rfl, ?_⟩
    replace H := H.toBelow hb
    clear hb
    have hXw : ∀ w, SH w0 [] w (bP g5 P rs.length cp F left.length cf :: bP g3 P2 rs2.length cp2 F2 left2.length cf2 :: bN g2 m A l.length ca B ts.length cb C ns.length cc hd :: L) → IntsAt w X x := fun w H => hXi w (hR.at H Sb.out).1
    clear hXi
    refine Y.v (Ev.asS rfl) <| Y.z <| Y.qr <| Y.b rfl <| Y.z <| WP.block <| WP.loop [4, 9, 10, 11, 12, 13, 57, 58, 59, 60, 61, 62, 63, 64, 65, 66, 67, 68, 69, 70, 71, 72, 73, 74, 75, 76, 77, 78, 79, 80, 81, 82, 83, 84] (fun k e w' => ∃ (i : Nat), i + k = left.length ∧ e 9 = I i ∧ SH w0 [] w' (bP g5 P rs.length cp F left.length cf :: bP g3 P2 rs2.length cp2 F2 left2.length cf2 :: bN g2 m A l.length ca B ts.length cb C ns.length cc hd :: L)) (left.length) (⟨0, by omega, rfl, H⟩) ?_
    clear H
    rintro k2 u2 w ⟨i, hk2, h9, H⟩
    refine WP.know (t := 9) h9 <| Y.q <| Y.qr <| Y.a rfl <| Y.fa rfl rfl <| Y.j H 0 rfl rfl rfl <| Y.v (Y.n rfl) <| Y.v (Ev.lss rfl rfl) <| Y.z ?_
    refine WP.cond rfl (fun hc13 => ?_) (fun hc13 => ?_)
    · have hil : i < left.length := by simpa using hc13
      have hfull := hpR.full j hjl left[i] (List.getElem_mem hil)
      rw [← hx] at hfull
      have hlv : ∃ bF oF, F = some ⟨bF, oF, none⟩ ∧ ∀ w, SH w0 [] w (bP g5 P rs.length cp F left.length cf :: bP g3 P2 rs2.length cp2 F2 left2.length cf2 :: bN g2 m A l.length ca B ts.length cb C ns.length cc hd :: L) → w.cell? ⟨bF, oF + i, none⟩ = some (I left[i]) := by
        obtain ⟨bF, oF, hFe, _⟩ := onesLt (hR.at H Sb.out).2 (by omega)
        refine ⟨bF, oF, hFe, fun w H => ?_⟩
        obtain ⟨b, o, he, hc⟩ := (hR.at H Sb.out).2 i hil
        rw [hFe] at he
        cases he
        exact hc
      obtain ⟨bF, oF, rfl, hlv⟩ := hlv
      generalize left[i] = v at *
      refine Y.k <| Y.q <| WP.block <| Y.q ?_
      have hxv : (x ++ [v]).length = x.length + 1 := by simp
      have E000 : SH w0 [] w (bP g5 P rs.length cp (some ⟨bF, oF, none⟩) left.length cf :: bP g3 P2 rs2.length cp2 F2 left2.length cf2 :: bN g2 m A l.length ca B ts.length cb C ns.length cc hd :: L) := H
      refine WP.rheldC [10, 64, 65, 66, 67, 68, 69, 70, 71, 72, 73, 74, 75] (fun u w' => ∃ (AE : Option Addr) (ce : Nat) (Le : List Blk) (g10 : Nat), u 10 = .pointer (some ⟨g10, 0, none⟩) ∧ OwnS AE ce (x.length + 1) ((x ++ [v]).map I) 3 1 Le ∧ SH w0 [] w' (bR g10 j AE (x.length + 1) ce :: ((bP g5 P rs.length cp (some ⟨bF, oF, none⟩) left.length cf :: bP g3 P2 rs2.length cp2 F2 left2.length cf2 :: bN g2 m A l.length ca B ts.length cb C ns.length cc hd :: L) ++ Le))) mixed H ?_ ?_
      · clear H; intro w hbw15 H
        refine Y.t 0 H rfl rfl (fun w H => Y.m rfl) <| Y.t 2 H rfl rfl (fun w H => Ev.mvS rfl) <| Y.t 4 H rfl rfl (fun w H => Y.f rfl rfl) <| Y.t 5 H rfl rfl (fun w H => Y.l H 0 rfl rfl rfl) <| Y.t 6 H rfl rfl (fun w H => Y.m rfl) <| Y.t 7 H rfl rfl (fun w H => Y.x rfl rfl rfl rfl) <| Y.t 8 H rfl rfl (fun w H => Y.c (hlv _ H) rfl) ?_
        refine Y.A [1, 9, 12] rfl ⟨⟨_, rfl, ?_⟩, ⟨_, rfl, ?_⟩, ⟨_, rfl, ?_⟩, trivial⟩
        · first
          | (refine OPS.buildSlice rfl rfl rfl rfl (bsl_32_0_ (e := fun _ => .int .i64 0)) E110 ?_
             clear H; intro g65 w E1
             have E113 : SH w0 [] w (bR g10 0 none 0 0 :: (bM g73 [I v] :: ((bP g5 P rs.length cp (some ⟨bF, oF, none⟩) left.length cf :: bP g3 P2 rs2.length cp2 F2 left2.length cf2 :: bN g2 m A l.length ca B ts.length cb C ns.length cc hd :: L) ++ [⟨g65, 3, []⟩]))) := E1.perm (by exact permBy fun f => by simp <;> omega)
             clear E1 E110
             have H := E113.drop (L' := (bP g5 P rs.length cp (some ⟨bF, oF, none⟩) left.length cf :: bP g3 P2 rs2.length cp2 F2 left2.length cf2 :: bN g2 m A l.length ca B ts.length cb C ns.length cc hd :: L)) Sb.out)
          | (refine OPS.buildSlice rfl rfl rfl rfl (bsl_32_0_ (e := fun _ => .int .i64 0)) E100 ?_
             clear H; intro g65 w E1
             have E103 : SH w0 [] w (bR g10 0 none 0 0 :: ((bP g5 P rs.length cp (some ⟨bF, oF, none⟩) left.length cf :: bP g3 P2 rs2.length cp2 F2 left2.length cf2 :: bN g2 m A l.length ca B ts.length cb C ns.length cc hd :: L) ++ [⟨g65, 3, []⟩])) := E1.perm (by exact permBy fun f => by simp <;> omega)
             clear E1 E100
             have H := E103.drop (L' := (bP g5 P rs.length cp (some ⟨bF, oF, none⟩) left.length cf :: bP g3 P2 rs2.length cp2 F2 left2.length cf2 :: bN g2 m A l.length ca B ts.length cb C ns.length cc hd :: L)) Sb.out)
          | (refine OPS.buildSlice rfl rfl rfl rfl (bsl_32_0_ (e := fun _ => .int .i64 0)) E010 ?_
             clear H; intro g65 w E1
             have E013 : SH w0 [] w (bM g73 [I v] :: ((bP g5 P rs.length cp (some ⟨bF, oF, none⟩) left.length cf :: bP g3 P2 rs2.length cp2 F2 left2.length cf2 :: bN g2 m A l.length ca B ts.length cb C ns.length cc hd :: L) ++ [⟨g65, 3, []⟩])) := E1.perm (by exact permBy fun f => by simp <;> omega)
             clear E1 E010
             have H := E013.drop (L' := (bP g5 P rs.length cp (some ⟨bF, oF, none⟩) left.length cf :: bP g3 P2 rs2.length cp2 F2 left2.length cf2 :: bN g2 m A l.length ca B ts.length cb C ns.length cc hd :: L)) Sb.out)
          | (refine OPS.buildSlice rfl rfl rfl rfl (bsl_32_0_ (e := fun _ => .int .i64 0)) (E000.toBelow hbw15) ?_
             clear H; intro g65 w E1
             have E003 : SH w0 [] w ((bP g5 P rs.length cp (some ⟨bF, oF, none⟩) left.length cf :: bP g3 P2 rs2.length cp2 F2 left2.length cf2 :: bN g2 m A l.length ca B ts.length cb C ns.length cc hd :: L) ++ [⟨g65, 3, []⟩]) := E1.perm (by exact permBy fun f => by simp <;> omega)
             clear E1 E000
             have H := E003.drop (L' := (bP g5 P rs.length cp (some ⟨bF, oF, none⟩) left.length cf :: bP g3 P2 rs2.length cp2 F2 left2.length cf2 :: bN g2 m A l.length ca B ts.length cb C ns.length cc hd :: L)) Sb.out)
          refine Y.z <| ⟨(H), ?_⟩
          refine Y.A [3, 9, 12] rfl ⟨⟨_, rfl, ?_⟩, ⟨_, rfl, ?_⟩, ⟨_, rfl, ?_⟩, trivial⟩
          · first
            | (refine OPS.appendE (m := x.length) (news := x.map I) (R := bR g10 0 none 0 0 :: (bM g73 [I v] :: ((bP g5 P rs.length cp (some ⟨bF, oF, none⟩) left.length cf :: bP g3 P2 rs2.length cp2 F2 left2.length cf2 :: bN g2 m A l.length ca B ts.length cb C ns.length cc hd :: L)))) rfl rfl rfl rfl rfl (sl_run rfl) rfl rfl (OwnS.mt (g := g65)) (by simp) (intsFrom (hXw _ H)) (intsOne x) (by omega) (by unfold maxLen; omega) E113 (List.Perm.refl _) ?_
               clear H; intro AE ce Le w hOE E1
               have E116 : SH w0 [] w (bR g10 0 none 0 0 :: (bM g73 [I v] :: ((bP g5 P rs.length cp (some ⟨bF, oF, none⟩) left.length cf :: bP g3 P2 rs2.length cp2 F2 left2.length cf2 :: bN g2 m A l.length ca B ts.length cb C ns.length cc hd :: L) ++ Le))) := E1
               clear E1 E113
               rw [Nat.zero_add, List.nil_append] at hOE
               rw [show 0 + x.length = x.length from Nat.zero_add _]
               have H := E116.drop (L' := (bP g5 P rs.length cp (some ⟨bF, oF, none⟩) left.length cf :: bP g3 P2 rs2.length cp2 F2 left2.length cf2 :: bN g2 m A l.length ca B ts.length cb C ns.length cc hd :: L)) Sb.out)
            | (refine OPS.appendE (m := x.length) (news := x.map I) (R := bR g10 0 none 0 0 :: ((bP g5 P rs.length cp (some ⟨bF, oF, none⟩) left.length cf :: bP g3 P2 rs2.length cp2 F2 left2.length cf2 :: bN g2 m A l.length ca B ts.length cb C ns.length cc hd :: L))) rfl rfl rfl rfl rfl (sl_run rfl) rfl rfl (OwnS.mt (g := g65)) (by simp) (intsFrom (hXw _ H)) (intsOne x) (by omega) (by unfold maxLen; omega) E103 (List.Perm.refl _) ?_
               clear H; intro AE ce Le w hOE E1
               have E106 : SH w0 [] w (bR g10 0 none 0 0 :: ((bP g5 P rs.length cp (some ⟨bF, oF, none⟩) left.length cf :: bP g3 P2 rs2.length cp2 F2 left2.length cf2 :: bN g2 m A l.length ca B ts.length cb C ns.length cc hd :: L) ++ Le)) := E1
               clear E1 E103
               rw [Nat.zero_add, List.nil_append] at hOE
               rw [show 0 + x.length = x.length from Nat.zero_add _]
               have H := E106.drop (L' := (bP g5 P rs.length cp (some ⟨bF, oF, none⟩) left.length cf :: bP g3 P2 rs2.length cp2 F2 left2.length cf2 :: bN g2 m A l.length ca B ts.length cb C ns.length cc hd :: L)) Sb.out)
            | (refine OPS.appendE (m := x.length) (news := x.map I) (R := bM g73 [I v] :: ((bP g5 P rs.length cp (some ⟨bF, oF, none⟩) left.length cf :: bP g3 P2 rs2.length cp2 F2 left2.length cf2 :: bN g2 m A l.length ca B ts.length cb C ns.length cc hd :: L))) rfl rfl rfl rfl rfl (sl_run rfl) rfl rfl (OwnS.mt (g := g65)) (by simp) (intsFrom (hXw _ H)) (intsOne x) (by omega) (by unfold maxLen; omega) E013 (List.Perm.refl _) ?_
               clear H; intro AE ce Le w hOE E1
               have E016 : SH w0 [] w (bM g73 [I v] :: ((bP g5 P rs.length cp (some ⟨bF, oF, none⟩) left.length cf :: bP g3 P2 rs2.length cp2 F2 left2.length cf2 :: bN g2 m A l.length ca B ts.length cb C ns.length cc hd :: L) ++ Le)) := E1
               clear E1 E013
               rw [Nat.zero_add, List.nil_append] at hOE
               rw [show 0 + x.length = x.length from Nat.zero_add _]
               have H := E016.drop (L' := (bP g5 P rs.length cp (some ⟨bF, oF, none⟩) left.length cf :: bP g3 P2 rs2.length cp2 F2 left2.length cf2 :: bN g2 m A l.length ca B ts.length cb C ns.length cc hd :: L)) Sb.out)
            | (refine OPS.appendE (m := x.length) (news := x.map I) (R := (bP g5 P rs.length cp (some ⟨bF, oF, none⟩) left.length cf :: bP g3 P2 rs2.length cp2 F2 left2.length cf2 :: bN g2 m A l.length ca B ts.length cb C ns.length cc hd :: L)) rfl rfl rfl rfl rfl (sl_run rfl) rfl rfl (OwnS.mt (g := g65)) (by simp) (intsFrom (hXw _ H)) (intsOne x) (by omega) (by unfold maxLen; omega) E003 (List.Perm.refl _) ?_
               clear H; intro AE ce Le w hOE E1
               have E006 : SH w0 [] w ((bP g5 P rs.length cp (some ⟨bF, oF, none⟩) left.length cf :: bP g3 P2 rs2.length cp2 F2 left2.length cf2 :: bN g2 m A l.length ca B ts.length cb C ns.length cc hd :: L) ++ Le) := E1
               clear E1 E003
               rw [Nat.zero_add, List.nil_append] at hOE
               rw [show 0 + x.length = x.length from Nat.zero_add _]
               have H := E006.drop (L' := (bP g5 P rs.length cp (some ⟨bF, oF, none⟩) left.length cf :: bP g3 P2 rs2.length cp2 F2 left2.length cf2 :: bN g2 m A l.length ca B ts.length cb C ns.length cc hd :: L)) Sb.out)
            refine Y.z <| ⟨(H), ?_⟩
            refine Y.A2 9 12 rfl rfl rfl ?_ ?_
            · first
              | (refine OPS.buildSlice rfl rfl rfl rfl (bsl_32_1_0 rfl) E106 ?_
                 clear H; intro g73 w E1
                 have E116 : SH w0 [] w (bR g10 0 none 0 0 :: (bM g73 [I v] :: ((bP g5 P rs.length cp (some ⟨bF, oF, none⟩) left.length cf :: bP g3 P2 rs2.length cp2 F2 left2.length cf2 :: bN g2 m A l.length ca B ts.length cb C ns.length cc hd :: L) ++ Le))) := E1.perm (List.Perm.swap _ _ _)
                 clear E1 E106
                 have H := E116.drop (L' := (bP g5 P rs.length cp (some ⟨bF, oF, none⟩) left.length cf :: bP g3 P2 rs2.length cp2 F2 left2.length cf2 :: bN g2 m A l.length ca B ts.length cb C ns.length cc hd :: L)) Sb.out)
              | (refine OPS.buildSlice rfl rfl rfl rfl (bsl_32_1_0 rfl) E103 ?_
                 clear H; intro g73 w E1
                 have E113 : SH w0 [] w (bR g10 0 none 0 0 :: (bM g73 [I v] :: ((bP g5 P rs.length cp (some ⟨bF, oF, none⟩) left.length cf :: bP g3 P2 rs2.length cp2 F2 left2.length cf2 :: bN g2 m A l.length ca B ts.length cb C ns.length cc hd :: L) ++ [⟨g65, 3, []⟩]))) := E1.perm (List.Perm.swap _ _ _)
                 clear E1 E103
                 have H := E113.drop (L' := (bP g5 P rs.length cp (some ⟨bF, oF, none⟩) left.length cf :: bP g3 P2 rs2.length cp2 F2 left2.length cf2 :: bN g2 m A l.length ca B ts.length cb C ns.length cc hd :: L)) Sb.out)
              | (refine OPS.buildSlice rfl rfl rfl rfl (bsl_32_1_0 rfl) E100 ?_
                 clear H; intro g73 w E1
                 have E110 : SH w0 [] w (bR g10 0 none 0 0 :: (bM g73 [I v] :: ((bP g5 P rs.length cp (some ⟨bF, oF, none⟩) left.length cf :: bP g3 P2 rs2.length cp2 F2 left2.length cf2 :: bN g2 m A l.length ca B ts.length cb C ns.length cc hd :: L)))) := E1.perm (List.Perm.swap _ _ _)
                 clear E1 E100
                 have H := E110.drop (L' := (bP g5 P rs.length cp (some ⟨bF, oF, none⟩) left.length cf :: bP g3 P2 rs2.length cp2 F2 left2.length cf2 :: bN g2 m A l.length ca B ts.length cb C ns.length cc hd :: L)) Sb.out)
              | (refine OPS.buildSlice rfl rfl rfl rfl (bsl_32_1_0 rfl) E006 ?_
                 clear H; intro g73 w E1
                 have E016 : SH w0 [] w (bM g73 [I v] :: ((bP g5 P rs.length cp (some ⟨bF, oF, none⟩) left.length cf :: bP g3 P2 rs2.length cp2 F2 left2.length cf2 :: bN g2 m A l.length ca B ts.length cb C ns.length cc hd :: L) ++ Le)) := E1
                 clear E1 E006
                 have H := E016.drop (L' := (bP g5 P rs.length cp (some ⟨bF, oF, none⟩) left.length cf :: bP g3 P2 rs2.length cp2 F2 left2.length cf2 :: bN g2 m A l.length ca B ts.length cb C ns.length cc hd :: L)) Sb.out)
              | (refine OPS.buildSlice rfl rfl rfl rfl (bsl_32_1_0 rfl) E003 ?_
                 clear H; intro g73 w E1
                 have E013 : SH w0 [] w (bM g73 [I v] :: ((bP g5 P rs.length cp (some ⟨bF, oF, none⟩) left.length cf :: bP g3 P2 rs2.length cp2 F2 left2.length cf2 :: bN g2 m A l.length ca B ts.length cb C ns.length cc hd :: L) ++ [⟨g65, 3, []⟩])) := E1
                 clear E1 E003
                 have H := E013.drop (L' := (bP g5 P rs.length cp (some ⟨bF, oF, none⟩) left.length cf :: bP g3 P2 rs2.length cp2 F2 left2.length cf2 :: bN g2 m A l.length ca B ts.length cb C ns.length cc hd :: L)) Sb.out)
              | (refine OPS.buildSlice rfl rfl rfl rfl (bsl_32_1_0 rfl) (E000.toBelow hbw15) ?_
                 clear H; intro g73 w E1
                 have E010 : SH w0 [] w (bM g73 [I v] :: ((bP g5 P rs.length cp (some ⟨bF, oF, none⟩) left.length cf :: bP g3 P2 rs2.length cp2 F2 left2.length cf2 :: bN g2 m A l.length ca B ts.length cb C ns.length cc hd :: L))) := E1
                 clear E1 E000
                 have H := E010.drop (L' := (bP g5 P rs.length cp (some ⟨bF, oF, none⟩) left.length cf :: bP g3 P2 rs2.length cp2 F2 left2.length cf2 :: bN g2 m A l.length ca B ts.length cb C ns.length cc hd :: L)) Sb.out)
              refine Y.z <| ⟨(H), ?_⟩
              refine Y.A2 10 12 rfl rfl rfl ?_ ?_
              · first
                | (refine OPS.append (m := 1) (news := [I v]) (R := bR g10 0 none 0 0 :: (bM g73 [I v] :: ((bP g5 P rs.length cp (some ⟨bF, oF, none⟩) left.length cf :: bP g3 P2 rs2.length cp2 F2 left2.length cf2 :: bN g2 m A l.length ca B ts.length cb C ns.length cc hd :: L)))) rfl rfl rfl rfl rfl (sl_run rfl) rfl rfl hOE rfl (src_own E116 1 rfl) rfl (by omega) (by unfold maxLen; omega) E116 (List.Perm.refl _) ?_
                   clear H hOE; intro AE ce Le w hOE E1
                   rw [show x.map I ++ [I v] = (x ++ [v]).map I by simp] at hOE
                   have E119 : SH w0 [] w (bR g10 0 none 0 0 :: (bM g73 [I v] :: ((bP g5 P rs.length cp (some ⟨bF, oF, none⟩) left.length cf :: bP g3 P2 rs2.length cp2 F2 left2.length cf2 :: bN g2 m A l.length ca B ts.length cb C ns.length cc hd :: L) ++ Le))) := E1
                   clear E1 E116
                   have H := E119.drop (L' := (bP g5 P rs.length cp (some ⟨bF, oF, none⟩) left.length cf :: bP g3 P2 rs2.length cp2 F2 left2.length cf2 :: bN g2 m A l.length ca B ts.length cb C ns.length cc hd :: L)) Sb.out)
                | (refine OPS.append (m := 1) (news := [I v]) (R := bM g73 [I v] :: ((bP g5 P rs.length cp (some ⟨bF, oF, none⟩) left.length cf :: bP g3 P2 rs2.length cp2 F2 left2.length cf2 :: bN g2 m A l.length ca B ts.length cb C ns.length cc hd :: L))) rfl rfl rfl rfl rfl (sl_run rfl) rfl rfl hOE rfl (src_own E016 0 rfl) rfl (by omega) (by unfold maxLen; omega) E016 (List.Perm.refl _) ?_
                   clear H hOE; intro AE ce Le w hOE E1
                   rw [show x.map I ++ [I v] = (x ++ [v]).map I by simp] at hOE
                   have E019 : SH w0 [] w (bM g73 [I v] :: ((bP g5 P rs.length cp (some ⟨bF, oF, none⟩) left.length cf :: bP g3 P2 rs2.length cp2 F2 left2.length cf2 :: bN g2 m A l.length ca B ts.length cb C ns.length cc hd :: L) ++ Le)) := E1
                   clear E1 E016
                   have H := E019.drop (L' := (bP g5 P rs.length cp (some ⟨bF, oF, none⟩) left.length cf :: bP g3 P2 rs2.length cp2 F2 left2.length cf2 :: bN g2 m A l.length ca B ts.length cb C ns.length cc hd :: L)) Sb.out)
                refine Y.z <| ⟨(H), ?_⟩
                refine Y.t 11 H rfl rfl (fun w H => Ev.build (bld_49_0_1 rfl rfl)) <| Y.A1 12 rfl rfl ?_
                first
                | (refine OPS.alloc rfl rfl rfl rfl (zero_run rfl) rfl E019 ?_
                   clear H; intro g10 w E1
                   have E119 : SH w0 [] w (bR g10 0 none 0 0 :: (bM g73 [I v] :: ((bP g5 P rs.length cp (some ⟨bF, oF, none⟩) left.length cf :: bP g3 P2 rs2.length cp2 F2 left2.length cf2 :: bN g2 m A l.length ca B ts.length cb C ns.length cc hd :: L) ++ Le))) := E1
                   clear E1 E019
                   have H := E119.drop (L' := (bP g5 P rs.length cp (some ⟨bF, oF, none⟩) left.length cf :: bP g3 P2 rs2.length cp2 F2 left2.length cf2 :: bN g2 m A l.length ca B ts.length cb C ns.length cc hd :: L)) Sb.out)
                | (refine OPS.alloc rfl rfl rfl rfl (zero_run rfl) rfl E016 ?_
                   clear H; intro g10 w E1
                   have E116 : SH w0 [] w (bR g10 0 none 0 0 :: (bM g73 [I v] :: ((bP g5 P rs.length cp (some ⟨bF, oF, none⟩) left.length cf :: bP g3 P2 rs2.length cp2 F2 left2.length cf2 :: bN g2 m A l.length ca B ts.length cb C ns.length cc hd :: L) ++ Le))) := E1
                   clear E1 E016
                   have H := E116.drop (L' := (bP g5 P rs.length cp (some ⟨bF, oF, none⟩) left.length cf :: bP g3 P2 rs2.length cp2 F2 left2.length cf2 :: bN g2 m A l.length ca B ts.length cb C ns.length cc hd :: L)) Sb.out)
                | (refine OPS.alloc rfl rfl rfl rfl (zero_run rfl) rfl E006 ?_
                   clear H; intro g10 w E1
                   have E106 : SH w0 [] w (bR g10 0 none 0 0 :: ((bP g5 P rs.length cp (some ⟨bF, oF, none⟩) left.length cf :: bP g3 P2 rs2.length cp2 F2 left2.length cf2 :: bN g2 m A l.length ca B ts.length cb C ns.length cc hd :: L) ++ Le)) := E1
                   clear E1 E006
                   have H := E106.drop (L' := (bP g5 P rs.length cp (some ⟨bF, oF, none⟩) left.length cf :: bP g3 P2 rs2.length cp2 F2 left2.length cf2 :: bN g2 m A l.length ca B ts.length cb C ns.length cc hd :: L)) Sb.out)
                | (refine OPS.alloc rfl rfl rfl rfl (zero_run rfl) rfl E013 ?_
                   clear H; intro g10 w E1
                   have E113 : SH w0 [] w (bR g10 0 none 0 0 :: (bM g73 [I v] :: ((bP g5 P rs.length cp (some ⟨bF, oF, none⟩) left.length cf :: bP g3 P2 rs2.length cp2 F2 left2.length cf2 :: bN g2 m A l.length ca B ts.length cb C ns.length cc hd :: L) ++ [⟨g65, 3, []⟩]))) := E1
                   clear E1 E013
                   have H := E113.drop (L' := (bP g5 P rs.length cp (some ⟨bF, oF, none⟩) left.length cf :: bP g3 P2 rs2.length cp2 F2 left2.length cf2 :: bN g2 m A l.length ca B ts.length cb C ns.length cc hd :: L)) Sb.out)
                | (refine OPS.alloc rfl rfl rfl rfl (zero_run rfl) rfl E003 ?_
                   clear H; intro g10 w E1
                   have E103 : SH w0 [] w (bR g10 0 none 0 0 :: ((bP g5 P rs.length cp (some ⟨bF, oF, none⟩) left.length cf :: bP g3 P2 rs2.length cp2 F2 left2.length cf2 :: bN g2 m A l.length ca B ts.length cb C ns.length cc hd :: L) ++ [⟨g65, 3, []⟩])) := E1
                   clear E1 E003
                   have H := E103.drop (L' := (bP g5 P rs.length cp (some ⟨bF, oF, none⟩) left.length cf :: bP g3 P2 rs2.length cp2 F2 left2.length cf2 :: bN g2 m A l.length ca B ts.length cb C ns.length cc hd :: L)) Sb.out)
                | (refine OPS.alloc rfl rfl rfl rfl (zero_run rfl) rfl E010 ?_
                   clear H; intro g10 w E1
                   have E110 : SH w0 [] w (bR g10 0 none 0 0 :: (bM g73 [I v] :: ((bP g5 P rs.length cp (some ⟨bF, oF, none⟩) left.length cf :: bP g3 P2 rs2.length cp2 F2 left2.length cf2 :: bN g2 m A l.length ca B ts.length cb C ns.length cc hd :: L)))) := E1
                   clear E1 E010
                   have H := E110.drop (L' := (bP g5 P rs.length cp (some ⟨bF, oF, none⟩) left.length cf :: bP g3 P2 rs2.length cp2 F2 left2.length cf2 :: bN g2 m A l.length ca B ts.length cb C ns.length cc hd :: L)) Sb.out)
                | (refine OPS.alloc rfl rfl rfl rfl (zero_run rfl) rfl (E000.toBelow hbw15) ?_
                   clear H; intro g10 w E1
                   have E100 : SH w0 [] w (bR g10 0 none 0 0 :: ((bP g5 P rs.length cp (some ⟨bF, oF, none⟩) left.length cf :: bP g3 P2 rs2.length cp2 F2 left2.length cf2 :: bN g2 m A l.length ca B ts.length cb C ns.length cc hd :: L))) := E1
                   clear E1 E000
                   have H := E100.drop (L' := (bP g5 P rs.length cp (some ⟨bF, oF, none⟩) left.length cf :: bP g3 P2 rs2.length cp2 F2 left2.length cf2 :: bN g2 m A l.length ca B ts.length cb C ns.length cc hd :: L)) Sb.out)
                refine Y.z <| ⟨(H), ?_⟩
                refine Y.A1 13 rfl rfl <| Y.st 0 E119 rfl (cA rfl) rfl ?_
                clear H; intro w E1; clear E119
                simp only [List.set_cons_zero, putL] at E1
                have H := E1.drop (L' := (bP g5 P rs.length cp (some ⟨bF, oF, none⟩) left.length cf :: bP g3 P2 rs2.length cp2 F2 left2.length cf2 :: bN g2 m A l.length ca B ts.length cb C ns.length cc hd :: L)) Sb.out
                refine Y.z <| ⟨(H), ?_⟩
                refine Y.dn ?_
                exact ⟨Y.ag, AE, ce, Le, g10, rfl, hOE, E1.drop (List.Sublist.cons_cons _ (List.sublist_cons_self _ _))⟩
              · first
                | (refine OPS.alloc rfl rfl rfl rfl (zero_run rfl) rfl E019 ?_
                   clear H; intro g10 w E1
                   have E119 : SH w0 [] w (bR g10 0 none 0 0 :: (bM g73 [I v] :: ((bP g5 P rs.length cp (some ⟨bF, oF, none⟩) left.length cf :: bP g3 P2 rs2.length cp2 F2 left2.length cf2 :: bN g2 m A l.length ca B ts.length cb C ns.length cc hd :: L) ++ Le))) := E1
                   clear E1 E019
                   have H := E119.drop (L' := (bP g5 P rs.length cp (some ⟨bF, oF, none⟩) left.length cf :: bP g3 P2 rs2.length cp2 F2 left2.length cf2 :: bN g2 m A l.length ca B ts.length cb C ns.length cc hd :: L)) Sb.out)
                | (refine OPS.alloc rfl rfl rfl rfl (zero_run rfl) rfl E016 ?_
                   clear H; intro g10 w E1
                   have E116 : SH w0 [] w (bR g10 0 none 0 0 :: (bM g73 [I v] :: ((bP g5 P rs.length cp (some ⟨bF, oF, none⟩) left.length cf :: bP g3 P2 rs2.length cp2 F2 left2.length cf2 :: bN g2 m A l.length ca B ts.length cb C ns.length cc hd :: L) ++ Le))) := E1
                   clear E1 E016
                   have H := E116.drop (L' := (bP g5 P rs.length cp (some ⟨bF, oF, none⟩) left.length cf :: bP g3 P2 rs2.length cp2 F2 left2.length cf2 :: bN g2 m A l.length ca B ts.length cb C ns.length cc hd :: L)) Sb.out)
                | (refine OPS.alloc rfl rfl rfl rfl (zero_run rfl) rfl E006 ?_
                   clear H; intro g10 w E1
                   have E106 : SH w0 [] w (bR g10 0 none 0 0 :: ((bP g5 P rs.length cp (some ⟨bF, oF, none⟩) left.length cf :: bP g3 P2 rs2.length cp2 F2 left2.length cf2 :: bN g2 m A l.length ca B ts.length cb C ns.length cc hd :: L) ++ Le)) := E1
                   clear E1 E006
                   have H := E106.drop (L' := (bP g5 P rs.length cp (some ⟨bF, oF, none⟩) left.length cf :: bP g3 P2 rs2.length cp2 F2 left2.length cf2 :: bN g2 m A l.length ca B ts.length cb C ns.length cc hd :: L)) Sb.out)
                | (refine OPS.alloc rfl rfl rfl rfl (zero_run rfl) rfl E013 ?_
                   clear H; intro g10 w E1
                   have E113 : SH w0 [] w (bR g10 0 none 0 0 :: (bM g73 [I v] :: ((bP g5 P rs.length cp (some ⟨bF, oF, none⟩) left.length cf :: bP g3 P2 rs2.length cp2 F2 left2.length cf2 :: bN g2 m A l.length ca B ts.length cb C ns.length cc hd :: L) ++ [⟨g65, 3, []⟩]))) := E1
                   clear E1 E013
                   have H := E113.drop (L' := (bP g5 P rs.length cp (some ⟨bF, oF, none⟩) left.length cf :: bP g3 P2 rs2.length cp2 F2 left2.length cf2 :: bN g2 m A l.length ca B ts.length cb C ns.length cc hd :: L)) Sb.out)
                | (refine OPS.alloc rfl rfl rfl rfl (zero_run rfl) rfl E003 ?_
                   clear H; intro g10 w E1
                   have E103 : SH w0 [] w (bR g10 0 none 0 0 :: ((bP g5 P rs.length cp (some ⟨bF, oF, none⟩) left.length cf :: bP g3 P2 rs2.length cp2 F2 left2.length cf2 :: bN g2 m A l.length ca B ts.length cb C ns.length cc hd :: L) ++ [⟨g65, 3, []⟩])) := E1
                   clear E1 E003
                   have H := E103.drop (L' := (bP g5 P rs.length cp (some ⟨bF, oF, none⟩) left.length cf :: bP g3 P2 rs2.length cp2 F2 left2.length cf2 :: bN g2 m A l.length ca B ts.length cb C ns.length cc hd :: L)) Sb.out)
                | (refine OPS.alloc rfl rfl rfl rfl (zero_run rfl) rfl E010 ?_
                   clear H; intro g10 w E1
                   have E110 : SH w0 [] w (bR g10 0 none 0 0 :: (bM g73 [I v] :: ((bP g5 P rs.length cp (some ⟨bF, oF, none⟩) left.length cf :: bP g3 P2 rs2.length cp2 F2 left2.length cf2 :: bN g2 m A l.length ca B ts.length cb C ns.length cc hd :: L)))) := E1
                   clear E1 E010
                   have H := E110.drop (L' := (bP g5 P rs.length cp (some ⟨bF, oF, none⟩) left.length cf :: bP g3 P2 rs2.length cp2 F2 left2.length cf2 :: bN g2 m A l.length ca B ts.length cb C ns.length cc hd :: L)) Sb.out)
                | (refine OPS.alloc rfl rfl rfl rfl (zero_run rfl) rfl (E000.toBelow hbw15) ?_
                   clear H; intro g10 w E1
                   have E100 : SH w0 [] w (bR g10 0 none 0 0 :: ((bP g5 P rs.length cp (some ⟨bF, oF, none⟩) left.length cf :: bP g3 P2 rs2.length cp2 F2 left2.length cf2 :: bN g2 m A l.length ca B ts.length cb C ns.length cc hd :: L))) := E1
                   clear E1 E000
                   have H := E100.drop (L' := (bP g5 P rs.length cp (some ⟨bF, oF, none⟩) left.length cf :: bP g3 P2 rs2.length cp2 F2 left2.length cf2 :: bN g2 m A l.length ca B ts.length cb C ns.length cc hd :: L)) Sb.out)
                refine Y.z <| ⟨(H), ?_⟩
                refine Y.A1 10 rfl rfl ?_
                first
                | (refine OPS.append (m := 1) (news := [I v]) (R := bR g10 0 none 0 0 :: (bM g73 [I v] :: ((bP g5 P rs.length cp (some ⟨bF, oF, none⟩) left.length cf :: bP g3 P2 rs2.length cp2 F2 left2.length cf2 :: bN g2 m A l.length ca B ts.length cb C ns.length cc hd :: L)))) rfl rfl rfl rfl rfl (sl_run rfl) rfl rfl hOE rfl (src_own E116 1 rfl) rfl (by omega) (by unfold maxLen; omega) E116 (List.Perm.refl _) ?_
                   clear H hOE; intro AE ce Le w hOE E1
                   rw [show x.map I ++ [I v] = (x ++ [v]).map I by simp] at hOE
                   have E119 : SH w0 [] w (bR g10 0 none 0 0 :: (bM g73 [I v] :: ((bP g5 P rs.length cp (some ⟨bF, oF, none⟩) left.length cf :: bP g3 P2 rs2.length cp2 F2 left2.length cf2 :: bN g2 m A l.length ca B ts.length cb C ns.length cc hd :: L) ++ Le))) := E1
                   clear E1 E116
                   have H := E119.drop (L' := (bP g5 P rs.length cp (some ⟨bF, oF, none⟩) left.length cf :: bP g3 P2 rs2.length cp2 F2 left2.length cf2 :: bN g2 m A l.length ca B ts.length cb C ns.length cc hd :: L)) Sb.out)
                | (refine OPS.append (m := 1) (news := [I v]) (R := bM g73 [I v] :: ((bP g5 P rs.length cp (some ⟨bF, oF, none⟩) left.length cf :: bP g3 P2 rs2.length cp2 F2 left2.length cf2 :: bN g2 m A l.length ca B ts.length cb C ns.length cc hd :: L))) rfl rfl rfl rfl rfl (sl_run rfl) rfl rfl hOE rfl (src_own E016 0 rfl) rfl (by omega) (by unfold maxLen; omega) E016 (List.Perm.refl _) ?_
                   clear H hOE; intro AE ce Le w hOE E1
                   rw [show x.map I ++ [I v] = (x ++ [v]).map I by simp] at hOE
                   have E019 : SH w0 [] w (bM g73 [I v] :: ((bP g5 P rs.length cp (some ⟨bF, oF, none⟩) left.length cf :: bP g3 P2 rs2.length cp2 F2 left2.length cf2 :: bN g2 m A l.length ca B ts.length cb C ns.length cc hd :: L) ++ Le)) := E1
                   clear E1 E016
                   have H := E019.drop (L' := (bP g5 P rs.length cp (some ⟨bF, oF, none⟩) left.length cf :: bP g3 P2 rs2.length cp2 F2 left2.length cf2 :: bN g2 m A l.length ca B ts.length cb C ns.length cc hd :: L)) Sb.out)
                refine Y.z <| ⟨(H), ?_⟩
                refine Y.t 11 H rfl rfl (fun w H => Ev.build (bld_49_0_1 rfl rfl)) <| Y.A1 13 rfl rfl <| Y.st 0 E119 rfl (cA rfl) rfl ?_
                clear H; intro w E1; clear E119
                simp only [List.set_cons_zero, putL] at E1
                have H := E1.drop (L' := (bP g5 P rs.length cp (some ⟨bF, oF, none⟩) left.length cf :: bP g3 P2 rs2.length cp2 F2 left2.length cf2 :: bN g2 m A l.length ca B ts.length cb C ns.length cc hd :: L)) Sb.out
                refine Y.z <| ⟨(H), ?_⟩
                refine Y.dn ?_
                exact ⟨Y.ag, AE, ce, Le, g10, rfl, hOE, E1.drop (List.Sublist.cons_cons _ (List.sublist_cons_self _ _))⟩
            · first
              | (refine OPS.alloc rfl rfl rfl rfl (zero_run rfl) rfl E019 ?_
                 clear H; intro g10 w E1
                 have E119 : SH w0 [] w (bR g10 0 none 0 0 :: (bM g73 [I v] :: ((bP g5 P rs.length cp (some ⟨bF, oF, none⟩) left.length cf :: bP g3 P2 rs2.length cp2 F2 left2.length cf2 :: bN g2 m A l.length ca B ts.length cb C ns.length cc hd :: L) ++ Le))) := E1
                 clear E1 E019
                 have H := E119.drop (L' := (bP g5 P rs.length cp (some ⟨bF, oF, none⟩) left.length cf :: bP g3 P2 rs2.length cp2 F2 left2.length cf2 :: bN g2 m A l.length ca B ts.length cb C ns.length cc hd :: L)) Sb.out)
              | (refine OPS.alloc rfl rfl rfl rfl (zero_run rfl) rfl E016 ?_
                 clear H; intro g10 w E1
                 have E116 : SH w0 [] w (bR g10 0 none 0 0 :: (bM g73 [I v] :: ((bP g5 P rs.length cp (some ⟨bF, oF, none⟩) left.length cf :: bP g3 P2 rs2.length cp2 F2 left2.length cf2 :: bN g2 m A l.length ca B ts.length cb C ns.length cc hd :: L) ++ Le))) := E1
                 clear E1 E016
                 have H := E116.drop (L' := (bP g5 P rs.length cp (some ⟨bF, oF, none⟩) left.length cf :: bP g3 P2 rs2.length cp2 F2 left2.length cf2 :: bN g2 m A l.length ca B ts.length cb C ns.length cc hd :: L)) Sb.out)
              | (refine OPS.alloc rfl rfl rfl rfl (zero_run rfl) rfl E006 ?_
                 clear H; intro g10 w E1
                 have E106 : SH w0 [] w (bR g10 0 none 0 0 :: ((bP g5 P rs.length cp (some ⟨bF, oF, none⟩) left.length cf :: bP g3 P2 rs2.length cp2 F2 left2.length cf2 :: bN g2 m A l.length ca B ts.length cb C ns.length cc hd :: L) ++ Le)) := E1
                 clear E1 E006
                 have H := E106.drop (L' := (bP g5 P rs.length cp (some ⟨bF, oF, none⟩) left.length cf :: bP g3 P2 rs2.length cp2 F2 left2.length cf2 :: bN g2 m A l.length ca B ts.length cb C ns.length cc hd :: L)) Sb.out)
              | (refine OPS.alloc rfl rfl rfl rfl (zero_run rfl) rfl E013 ?_
                 clear H; intro g10 w E1
                 have E113 : SH w0 [] w (bR g10 0 none 0 0 :: (bM g73 [I v] :: ((bP g5 P rs.length cp (some ⟨bF, oF, none⟩) left.length cf :: bP g3 P2 rs2.length cp2 F2 left2.length cf2 :: bN g2 m A l.length ca B ts.length cb C ns.length cc hd :: L) ++ [⟨g65, 3, []⟩]))) := E1
                 clear E1 E013
                 have H := E113.drop (L' := (bP g5 P rs.length cp (some ⟨bF, oF, none⟩) left.length cf :: bP g3 P2 rs2.length cp2 F2 left2.length cf2 :: bN g2 m A l.length ca B ts.length cb C ns.length cc hd :: L)) Sb.out)
              | (refine OPS.alloc rfl rfl rfl rfl (zero_run rfl) rfl E003 ?_
                 clear H; intro g10 w E1
                 have E103 : SH w0 [] w (bR g10 0 none 0 0 :: ((bP g5 P rs.length cp (some ⟨bF, oF, none⟩) left.length cf :: bP g3 P2 rs2.length cp2 F2 left2.length cf2 :: bN g2 m A l.length ca B ts.length cb C ns.length cc hd :: L) ++ [⟨g65, 3, []⟩])) := E1
                 clear E1 E003
                 have H := E103.drop (L' := (bP g5 P rs.length cp (some ⟨bF, oF, none⟩) left.length cf :: bP g3 P2 rs2.length cp2 F2 left2.length cf2 :: bN g2 m A l.length ca B ts.length cb C ns.length cc hd :: L)) Sb.out)
              | (refine OPS.alloc rfl rfl rfl rfl (zero_run rfl) rfl E010 ?_
                 clear H; intro g10 w E1
                 have E110 : SH w0 [] w (bR g10 0 none 0 0 :: (bM g73 [I v] :: ((bP g5 P rs.length cp (some ⟨bF, oF, none⟩) left.length cf :: bP g3 P2 rs2.length cp2 F2 left2.length cf2 :: bN g2 m A l.length ca B ts.length cb C ns.length cc hd :: L)))) := E1
                 clear E1 E010
                 have H := E110.drop (L' := (bP g5 P rs.length cp (some ⟨bF, oF, none⟩) left.length cf :: bP g3 P2 rs2.length cp2 F2 left2.length cf2 :: bN g2 m A l.length ca B ts.length cb C ns.length cc hd :: L)) Sb.out)
              | (refine OPS.alloc rfl rfl rfl rfl (zero_run rfl) rfl (E000.toBelow hbw15) ?_
                 clear H; intro g10 w E1
                 have E100 : SH w0 [] w (bR g10 0 none 0 0 :: ((bP g5 P rs.length cp (some ⟨bF, oF, none⟩) left.length cf :: bP g3 P2 rs2.length cp2 F2 left2.length cf2 :: bN g2 m A l.length ca B ts.length cb C ns.length cc hd :: L))) := E1
                 clear E1 E000
                 have H := E100.drop (L' := (bP g5 P rs.length cp (some ⟨bF, oF, none⟩) left.length cf :: bP g3 P2 rs2.length cp2 F2 left2.length cf2 :: bN g2 m A l.length ca B ts.length cb C ns.length cc hd :: L)) Sb.out)
              refine Y.z <| ⟨(H), ?_⟩
              refine Y.A1 9 rfl rfl ?_
              first
              | (refine OPS.buildSlice rfl rfl rfl rfl (bsl_32_1_0 rfl) E106 ?_
                 clear H; intro g73 w E1
                 have E116 : SH w0 [] w (bR g10 0 none 0 0 :: (bM g73 [I v] :: ((bP g5 P rs.length cp (some ⟨bF, oF, none⟩) left.length cf :: bP g3 P2 rs2.length cp2 F2 left2.length cf2 :: bN g2 m A l.length ca B ts.length cb C ns.length cc hd :: L) ++ Le))) := E1.perm (List.Perm.swap _ _ _)
                 clear E1 E106
                 have H := E116.drop (L' := (bP g5 P rs.length cp (some ⟨bF, oF, none⟩) left.length cf :: bP g3 P2 rs2.length cp2 F2 left2.length cf2 :: bN g2 m A l.length ca B ts.length cb C ns.length cc hd :: L)) Sb.out)
              | (refine OPS.buildSlice rfl rfl rfl rfl (bsl_32_1_0 rfl) E103 ?_
                 clear H; intro g73 w E1
                 have E113 : SH w0 [] w (bR g10 0 none 0 0 :: (bM g73 [I v] :: ((bP g5 P rs.length cp (some ⟨bF, oF, none⟩) left.length cf :: bP g3 P2 rs2.length cp2 F2 left2.length cf2 :: bN g2 m A l.length ca B ts.length cb C ns.length cc hd :: L) ++ [⟨g65, 3, []⟩]))) := E1.perm (List.Perm.swap _ _ _)
                 clear E1 E103
                 have H := E113.drop (L' := (bP g5 P rs.length cp (some ⟨bF, oF, none⟩) left.length cf :: bP g3 P2 rs2.length cp2 F2 left2.length cf2 :: bN g2 m A l.length ca B ts.length cb C ns.length cc hd :: L)) Sb.out)
              | (refine OPS.buildSlice rfl rfl rfl rfl (bsl_32_1_0 rfl) E100 ?_
                 clear H; intro g73 w E1
                 have E110 : SH w0 [] w (bR g10 0 none 0 0 :: (bM g73 [I v] :: ((bP g5 P rs.length cp (some ⟨bF, oF, none⟩) left.length cf :: bP g3 P2 rs2.length cp2 F2 left2.length cf2 :: bN g2 m A l.length ca B ts.length cb C ns.length cc hd :: L)))) := E1.perm (List.Perm.swap _ _ _)
                 clear E1 E100
                 have H := E110.drop (L' := (bP g5 P rs.length cp (some ⟨bF, oF, none⟩) left.length cf :: bP g3 P2 rs2.length cp2 F2 left2.length cf2 :: bN g2 m A l.length ca B ts.length cb C ns.length cc hd :: L)) Sb.out)
              | (refine OPS.buildSlice rfl rfl rfl rfl (bsl_32_1_0 rfl) E006 ?_
                 clear H; intro g73 w E1
                 have E016 : SH w0 [] w (bM g73 [I v] :: ((bP g5 P rs.length cp (some ⟨bF, oF, none⟩) left.length cf :: bP g3 P2 rs2.length cp2 F2 left2.length cf2 :: bN g2 m A l.length ca B ts.length cb C ns.length cc hd :: L) ++ Le)) := E1
                 clear E1 E006
                 have H := E016.drop (L' := (bP g5 P rs.length cp (some ⟨bF, oF, none⟩) left.length cf :: bP g3 P2 rs2.length cp2 F2 left2.length cf2 :: bN g2 m A l.length ca B ts.length cb C ns.length cc hd :: L)) Sb.out)
              | (refine OPS.buildSlice rfl rfl rfl rfl (bsl_32_1_0 rfl) E003 ?_
                 clear H; intro g73 w E1
                 have E013 : SH w0 [] w (bM g73 [I v] :: ((bP g5 P rs.length cp (some ⟨bF, oF, none⟩) left.length cf :: bP g3 P2 rs2.length cp2 F2 left2.length cf2 :: bN g2 m A l.length ca B ts.length cb C ns.length cc hd :: L) ++ [⟨g65, 3, []⟩])) := E1
                 clear E1 E003
                 have H := E013.drop (L' := (bP g5 P rs.length cp (some ⟨bF, oF, none⟩) left.length cf :: bP g3 P2 rs2.length cp2 F2 left2.length cf2 :: bN g2 m A l.length ca B ts.length cb C ns.length cc hd :: L)) Sb.out)
              | (refine OPS.buildSlice rfl rfl rfl rfl (bsl_32_1_0 rfl) (E000.toBelow hbw15) ?_
                 clear H; intro g73 w E1
                 have E010 : SH w0 [] w (bM g73 [I v] :: ((bP g5 P rs.length cp (some ⟨bF, oF, none⟩) left.length cf :: bP g3 P2 rs2.length cp2 F2 left2.length cf2 :: bN g2 m A l.length ca B ts.length cb C ns.length cc hd :: L))) := E1
                 clear E1 E000
                 have H := E010.drop (L' := (bP g5 P rs.length cp (some ⟨bF, oF, none⟩) left.length cf :: bP g3 P2 rs2.length cp2 F2 left2.length cf2 :: bN g2 m A l.length ca B ts.length cb C ns.length cc hd :: L)) Sb.out)
              refine Y.z <| ⟨(H), ?_⟩
              refine Y.A1 10 rfl rfl ?_
              first
              | (refine OPS.append (m := 1) (news := [I v]) (R := bR g10 0 none 0 0 :: (bM g73 [I v] :: ((bP g5 P rs.length cp (some ⟨bF, oF, none⟩) left.length cf :: bP g3 P2 rs2.length cp2 F2 left2.length cf2 :: bN g2 m A l.length ca B ts.length cb C ns.length cc hd :: L)))) rfl rfl rfl rfl rfl (sl_run rfl) rfl rfl hOE rfl (src_own E116 1 rfl) rfl (by omega) (by unfold maxLen; omega) E116 (List.Perm.refl _) ?_
                 clear H hOE; intro AE ce Le w hOE E1
                 rw [show x.map I ++ [I v] = (x ++ [v]).map I by simp] at hOE
                 have E119 : SH w0 [] w (bR g10 0 none 0 0 :: (bM g73 [I v] :: ((bP g5 P rs.length cp (some ⟨bF, oF, none⟩) left.length cf :: bP g3 P2 rs2.length cp2 F2 left2.length cf2 :: bN g2 m A l.length ca B ts.length cb C ns.length cc hd :: L) ++ Le))) := E1
                 clear E1 E116
                 have H := E119.drop (L' := (bP g5 P rs.length cp (some ⟨bF, oF, none⟩) left.length cf :: bP g3 P2 rs2.length cp2 F2 left2.length cf2 :: bN g2 m A l.length ca B ts.length cb C ns.length cc hd :: L)) Sb.out)
              | (refine OPS.append (m := 1) (news := [I v]) (R := bM g73 [I v] :: ((bP g5 P rs.length cp (some ⟨bF, oF, none⟩) left.length cf :: bP g3 P2 rs2.length cp2 F2 left2.length cf2 :: bN g2 m A l.length ca B ts.length cb C ns.length cc hd :: L))) rfl rfl rfl rfl rfl (sl_run rfl) rfl rfl hOE rfl (src_own E016 0 rfl) rfl (by omega) (by unfold maxLen; omega) E016 (List.Perm.refl _) ?_
                 clear H hOE; intro AE ce Le w hOE E1
                 rw [show x.map I ++ [I v] = (x ++ [v]).map I by simp] at hOE
                 have E019 : SH w0 [] w (bM g73 [I v] :: ((bP g5 P rs.length cp (some ⟨bF, oF, none⟩) left.length cf :: bP g3 P2 rs2.length cp2 F2 left2.length cf2 :: bN g2 m A l.length ca B ts.length cb C ns.length cc hd :: L) ++ Le)) := E1
                 clear E1 E016
                 have H := E019.drop (L' := (bP g5 P rs.length cp (some ⟨bF, oF, none⟩) left.length cf :: bP g3 P2 rs2.length cp2 F2 left2.length cf2 :: bN g2 m A l.length ca B ts.length cb C ns.length cc hd :: L)) Sb.out)
              refine Y.z <| ⟨(H), ?_⟩
              refine Y.t 11 H rfl rfl (fun w H => Ev.build (bld_49_0_1 rfl rfl)) <| Y.A1 13 rfl rfl <| Y.st 0 E119 rfl (cA rfl) rfl ?_
              clear H; intro w E1; clear E119
              simp only [List.set_cons_zero, putL] at E1
              have H := E1.drop (L' := (bP g5 P rs.length cp (some ⟨bF, oF, none⟩) left.length cf :: bP g3 P2 rs2.length cp2 F2 left2.length cf2 :: bN g2 m A l.length ca B ts.length cb C ns.length cc hd :: L)) Sb.out
              refine Y.z <| ⟨(H), ?_⟩
              refine Y.dn ?_
              exact ⟨Y.ag, AE, ce, Le, g10, rfl, hOE, E1.drop (List.Sublist.cons_cons _ (List.sublist_cons_self _ _))⟩
          · first
            | (refine OPS.buildSlice rfl rfl rfl rfl (bsl_32_1_0 rfl) E106 ?_
               clear H; intro g73 w E1
               have E116 : SH w0 [] w (bR g10 0 none 0 0 :: (bM g73 [I v] :: ((bP g5 P rs.length cp (some ⟨bF, oF, none⟩) left.length cf :: bP g3 P2 rs2.length cp2 F2 left2.length cf2 :: bN g2 m A l.length ca B ts.length cb C ns.length cc hd :: L) ++ Le))) := E1.perm (List.Perm.swap _ _ _)
               clear E1 E106
               have H := E116.drop (L' := (bP g5 P rs.length cp (some ⟨bF, oF, none⟩) left.length cf :: bP g3 P2 rs2.length cp2 F2 left2.length cf2 :: bN g2 m A l.length ca B ts.length cb C ns.length cc hd :: L)) Sb.out)
            | (refine OPS.buildSlice rfl rfl rfl rfl (bsl_32_1_0 rfl) E103 ?_
               clear H; intro g73 w E1
               have E113 : SH w0 [] w (bR g10 0 none 0 0 :: (bM g73 [I v] :: ((bP g5 P rs.length cp (some ⟨bF, oF, none⟩) left.length cf :: bP g3 P2 rs2.length cp2 F2 left2.length cf2 :: bN g2 m A l.length ca B ts.length cb C ns.length cc hd :: L) ++ [⟨g65, 3, []⟩]))) := E1.perm (List.Perm.swap _ _ _)
               clear E1 E103
               have H := E113.drop (L' := (bP g5 P rs.length cp (some ⟨bF, oF, none⟩) left.length cf :: bP g3 P2 rs2.length cp2 F2 left2.length cf2 :: bN g2 m A l.length ca B ts.length cb C ns.length cc hd :: L)) Sb.out)
            | (refine OPS.buildSlice rfl rfl rfl rfl (bsl_32_1_0 rfl) E100 ?_
               clear H; intro g73 w E1
               have E110 : SH w0 [] w (bR g10 0 none 0 0 :: (bM g73 [I v] :: ((bP g5 P rs.length cp (some ⟨bF, oF, none⟩) left.length cf :: bP g3 P2 rs2.length cp2 F2 left2.length cf2 :: bN g2 m A l.length ca B ts.length cb C ns.length cc hd :: L)))) := E1.perm (List.Perm.swap _ _ _)
               clear E1 E100
               have H := E110.drop (L' := (bP g5 P rs.length cp (some ⟨bF, oF, none⟩) left.length cf :: bP g3 P2 rs2.length cp2 F2 left2.length cf2 :: bN g2 m A l.length ca B ts.length cb C ns.length cc hd :: L)) Sb.out)
            | (refine OPS.buildSlice rfl rfl rfl rfl (bsl_32_1_0 rfl) E006 ?_
               clear H; intro g73 w E1
               have E016 : SH w0 [] w (bM g73 [I v] :: ((bP g5 P rs.length cp (some ⟨bF, oF, none⟩) left.length cf :: bP g3 P2 rs2.length cp2 F2 left2.length cf2 :: bN g2 m A l.length ca B ts.length cb C ns.length cc hd :: L) ++ Le)) := E1
               clear E1 E006
               have H := E016.drop (L' := (bP g5 P rs.length cp (some ⟨bF, oF, none⟩) left.length cf :: bP g3 P2 rs2.length cp2 F2 left2.length cf2 :: bN g2 m A l.length ca B ts.length cb C ns.length cc hd :: L)) Sb.out)
            | (refine OPS.buildSlice rfl rfl rfl rfl (bsl_32_1_0 rfl) E003 ?_
               clear H; intro g73 w E1
               have E013 : SH w0 [] w (bM g73 [I v] :: ((bP g5 P rs.length cp (some ⟨bF, oF, none⟩) left.length cf :: bP g3 P2 rs2.length cp2 F2 left2.length cf2 :: bN g2 m A l.length ca B ts.length cb C ns.length cc hd :: L) ++ [⟨g65, 3, []⟩])) := E1
               clear E1 E003
               have H := E013.drop (L' := (bP g5 P rs.length cp (some ⟨bF, oF, none⟩) left.length cf :: bP g3 P2 rs2.length cp2 F2 left2.length cf2 :: bN g2 m A l.length ca B ts.length cb C ns.length cc hd :: L)) Sb.out)
            | (refine OPS.buildSlice rfl rfl rfl rfl (bsl_32_1_0 rfl) (E000.toBelow hbw15) ?_
               clear H; intro g73 w E1
               have E010 : SH w0 [] w (bM g73 [I v] :: ((bP g5 P rs.length cp (some ⟨bF, oF, none⟩) left.length cf :: bP g3 P2 rs2.length cp2 F2 left2.length cf2 :: bN g2 m A l.length ca B ts.length cb C ns.length cc hd :: L))) := E1
               clear E1 E000
               have H := E010.drop (L' := (bP g5 P rs.length cp (some ⟨bF, oF, none⟩) left.length cf :: bP g3 P2 rs2.length cp2 F2 left2.length cf2 :: bN g2 m A l.length ca B ts.length cb C ns.length cc hd :: L)) Sb.out)
            refine Y.z <| ⟨(H), ?_⟩
            refine Y.A2 3 12 rfl rfl rfl ?_ ?_
            · first
              | (refine OPS.appendE (m := x.length) (news := x.map I) (R := bR g10 0 none 0 0 :: (bM g73 [I v] :: ((bP g5 P rs.length cp (some ⟨bF, oF, none⟩) left.length cf :: bP g3 P2 rs2.length cp2 F2 left2.length cf2 :: bN g2 m A l.length ca B ts.length cb C ns.length cc hd :: L)))) rfl rfl rfl rfl rfl (sl_run rfl) rfl rfl (OwnS.mt (g := g65)) (by simp) (intsFrom (hXw _ H)) (intsOne x) (by omega) (by unfold maxLen; omega) E113 (List.Perm.refl _) ?_
                 clear H; intro AE ce Le w hOE E1
                 have E116 : SH w0 [] w (bR g10 0 none 0 0 :: (bM g73 [I v] :: ((bP g5 P rs.length cp (some ⟨bF, oF, none⟩) left.length cf :: bP g3 P2 rs2.length cp2 F2 left2.length cf2 :: bN g2 m A l.length ca B ts.length cb C ns.length cc hd :: L) ++ Le))) := E1
                 clear E1 E113
                 rw [Nat.zero_add, List.nil_append] at hOE
                 rw [show 0 + x.length = x.length from Nat.zero_add _]
                 have H := E116.drop (L' := (bP g5 P rs.length cp (some ⟨bF, oF, none⟩) left.length cf :: bP g3 P2 rs2.length cp2 F2 left2.length cf2 :: bN g2 m A l.length ca B ts.length cb C ns.length cc hd :: L)) Sb.out)
              | (refine OPS.appendE (m := x.length) (news := x.map I) (R := bR g10 0 none 0 0 :: ((bP g5 P rs.length cp (some ⟨bF, oF, none⟩) left.length cf :: bP g3 P2 rs2.length cp2 F2 left2.length cf2 :: bN g2 m A l.length ca B ts.length cb C ns.length cc hd :: L))) rfl rfl rfl rfl rfl (sl_run rfl) rfl rfl (OwnS.mt (g := g65)) (by simp) (intsFrom (hXw _ H)) (intsOne x) (by omega) (by unfold maxLen; omega) E103 (List.Perm.refl _) ?_
                 clear H; intro AE ce Le w hOE E1
                 have E106 : SH w0 [] w (bR g10 0 none 0 0 :: ((bP g5 P rs.length cp (some ⟨bF, oF, none⟩) left.length cf :: bP g3 P2 rs2.length cp2 F2 left2.length cf2 :: bN g2 m A l.length ca B ts.length cb C ns.length cc hd :: L) ++ Le)) := E1
                 clear E1 E103
                 rw [Nat.zero_add, List.nil_append] at hOE
                 rw [show 0 + x.length = x.length from Nat.zero_add _]
                 have H := E106.drop (L' := (bP g5 P rs.length cp (some ⟨bF, oF, none⟩) left.length cf :: bP g3 P2 rs2.length cp2 F2 left2.length cf2 :: bN g2 m A l.length ca B ts.length cb C ns.length cc hd :: L)) Sb.out)
              | (refine OPS.appendE (m := x.length) (news := x.map I) (R := bM g73 [I v] :: ((bP g5 P rs.length cp (some ⟨bF, oF, none⟩) left.length cf :: bP g3 P2 rs2.length cp2 F2 left2.length cf2 :: bN g2 m A l.length ca B ts.length cb C ns.length cc hd :: L))) rfl rfl rfl rfl rfl (sl_run rfl) rfl rfl (OwnS.mt (g := g65)) (by simp) (intsFrom (hXw _ H)) (intsOne x) (by omega) (by unfold maxLen; omega) E013 (List.Perm.refl _) ?_
                 clear H; intro AE ce Le w hOE E1
                 have E016 : SH w0 [] w (bM g73 [I v] :: ((bP g5 P rs.length cp (some ⟨bF, oF, none⟩) left.length cf :: bP g3 P2 rs2.length cp2 F2 left2.length cf2 :: bN g2 m A l.length ca B ts.length cb C ns.length cc hd :: L) ++ Le)) := E1
                 clear E1 E013
                 rw [Nat.zero_add, List.nil_append] at hOE
                 rw [show 0 + x.length = x.length from Nat.zero_add _]
                 have H := E016.drop (L' := (bP g5 P rs.length cp (some ⟨bF, oF, none⟩) left.length cf :: bP g3 P2 rs2.length cp2 F2 left2.length cf2 :: bN g2 m A l.length ca B ts.length cb C ns.length cc hd :: L)) Sb.out)
              | (refine OPS.appendE (m := x.length) (news := x.map I) (R := (bP g5 P rs.length cp (some ⟨bF, oF, none⟩) left.length cf :: bP g3 P2 rs2.length cp2 F2 left2.length cf2 :: bN g2 m A l.length ca B ts.length cb C ns.length cc hd :: L)) rfl rfl rfl rfl rfl (sl_run rfl) rfl rfl (OwnS.mt (g := g65)) (by simp) (intsFrom (hXw _ H)) (intsOne x) (by omega) (by unfold maxLen; omega) E003 (List.Perm.refl _) ?_
                 clear H; intro AE ce Le w hOE E1
                 have E006 : SH w0 [] w ((bP g5 P rs.length cp (some ⟨bF, oF, none⟩) left.length cf :: bP g3 P2 rs2.length cp2 F2 left2.length cf2 :: bN g2 m A l.length ca B ts.length cb C ns.length cc hd :: L) ++ Le) := E1
                 clear E1 E003
                 rw [Nat.zero_add, List.nil_append] at hOE
                 rw [show 0 + x.length = x.length from Nat.zero_add _]
                 have H := E006.drop (L' := (bP g5 P rs.length cp (some ⟨bF, oF, none⟩) left.length cf :: bP g3 P2 rs2.length cp2 F2 left2.length cf2 :: bN g2 m A l.length ca B ts.length cb C ns.length cc hd :: L)) Sb.out)
              refine Y.z <| ⟨(H), ?_⟩
              refine Y.A2 10 12 rfl rfl rfl ?_ ?_
              · first
                | (refine OPS.append (m := 1) (news := [I v]) (R := bR g10 0 none 0 0 :: (bM g73 [I v] :: ((bP g5 P rs.length cp (some ⟨bF, oF, none⟩) left.length cf :: bP g3 P2 rs2.length cp2 F2 left2.length cf2 :: bN g2 m A l.length ca B ts.length cb C ns.length cc hd :: L)))) rfl rfl rfl rfl rfl (sl_run rfl) rfl rfl hOE rfl (src_own E116 1 rfl) rfl (by omega) (by unfold maxLen; omega) E116 (List.Perm.refl _) ?_
                   clear H hOE; intro AE ce Le w hOE E1
                   rw [show x.map I ++ [I v] = (x ++ [v]).map I by simp] at hOE
                   have E119 : SH w0 [] w (bR g10 0 none 0 0 :: (bM g73 [I v] :: ((bP g5 P rs.length cp (some ⟨bF, oF, none⟩) left.length cf :: bP g3 P2 rs2.length cp2 F2 left2.length cf2 :: bN g2 m A l.length ca B ts.length cb C ns.length cc hd :: L) ++ Le))) := E1
                   clear E1 E116
                   have H := E119.drop (L' := (bP g5 P rs.length cp (some ⟨bF, oF, none⟩) left.length cf :: bP g3 P2 rs2.length cp2 F2 left2.length cf2 :: bN g2 m A l.length ca B ts.length cb C ns.length cc hd :: L)) Sb.out)
                | (refine OPS.append (m := 1) (news := [I v]) (R := bM g73 [I v] :: ((bP g5 P rs.length cp (some ⟨bF, oF, none⟩) left.length cf :: bP g3 P2 rs2.length cp2 F2 left2.length cf2 :: bN g2 m A l.length ca B ts.length cb C ns.length cc hd :: L))) rfl rfl rfl rfl rfl (sl_run rfl) rfl rfl hOE rfl (src_own E016 0 rfl) rfl (by omega) (by unfold maxLen; omega) E016 (List.Perm.refl _) ?_
                   clear H hOE; intro AE ce Le w hOE E1
                   rw [show x.map I ++ [I v] = (x ++ [v]).map I by simp] at hOE
                   have E019 : SH w0 [] w (bM g73 [I v] :: ((bP g5 P rs.length cp (some ⟨bF, oF, none⟩) left.length cf :: bP g3 P2 rs2.length cp2 F2 left2.length cf2 :: bN g2 m A l.length ca B ts.length cb C ns.length cc hd :: L) ++ Le)) := E1
                   clear E1 E016
                   have H := E019.drop (L' := (bP g5 P rs.length cp (some ⟨bF, oF, none⟩) left.length cf :: bP g3 P2 rs2.length cp2 F2 left2.length cf2 :: bN g2 m A l.length ca B ts.length cb C ns.length cc hd :: L)) Sb.out)
                refine Y.z <| ⟨(H), ?_⟩
                refine Y.t 11 H rfl rfl (fun w H => Ev.build (bld_49_0_1 rfl rfl)) <| Y.A1 12 rfl rfl ?_
                first
                | (refine OPS.alloc rfl rfl rfl rfl (zero_run rfl) rfl E019 ?_
                   clear H; intro g10 w E1
                   have E119 : SH w0 [] w (bR g10 0 none 0 0 :: (bM g73 [I v] :: ((bP g5 P rs.length cp (some ⟨bF, oF, none⟩) left.length cf :: bP g3 P2 rs2.length cp2 F2 left2.length cf2 :: bN g2 m A l.length ca B ts.length cb C ns.length cc hd :: L) ++ Le))) := E1
                   clear E1 E019
                   have H := E119.drop (L' := (bP g5 P rs.length cp (some ⟨bF, oF, none⟩) left.length cf :: bP g3 P2 rs2.length cp2 F2 left2.length cf2 :: bN g2 m A l.length ca B ts.length cb C ns.length cc hd :: L)) Sb.out)
                | (refine OPS.alloc rfl rfl rfl rfl (zero_run rfl) rfl E016 ?_
                   clear H; intro g10 w E1
                   have E116 : SH w0 [] w (bR g10 0 none 0 0 :: (bM g73 [I v] :: ((bP g5 P rs.length cp (some ⟨bF, oF, none⟩) left.length cf :: bP g3 P2 rs2.length cp2 F2 left2.length cf2 :: bN g2 m A l.length ca B ts.length cb C ns.length cc hd :: L) ++ Le))) := E1
                   clear E1 E016
                   have H := E116.drop (L' := (bP g5 P rs.length cp (some ⟨bF, oF, none⟩) left.length cf :: bP g3 P2 rs2.length cp2 F2 left2.length cf2 :: bN g2 m A l.length ca B ts.length cb C ns.length cc hd :: L)) Sb.out)
                | (refine OPS.alloc rfl rfl rfl rfl (zero_run rfl) rfl E006 ?_
                   clear H; intro g10 w E1
                   have E106 : SH w0 [] w (bR g10 0 none 0 0 :: ((bP g5 P rs.length cp (some ⟨bF, oF, none⟩) left.length cf :: bP g3 P2 rs2.length cp2 F2 left2.length cf2 :: bN g2 m A l.length ca B ts.length cb C ns.length cc hd :: L) ++ Le)) := E1
                   clear E1 E006
                   have H := E106.drop (L' := (bP g5 P rs.length cp (some ⟨bF, oF, none⟩) left.length cf :: bP g3 P2 rs2.length cp2 F2 left2.length cf2 :: bN g2 m A l.length ca B ts.length cb C ns.length cc hd :: L)) Sb.out)
                | (refine OPS.alloc rfl rfl rfl rfl (zero_run rfl) rfl E013 ?_
                   clear H; intro g10 w E1
                   have E113 : SH w0 [] w (bR g10 0 none 0 0 :: (bM g73 [I v] :: ((bP g5 P rs.length cp (some ⟨bF, oF, none⟩) left.length cf :: bP g3 P2 rs2.length cp2 F2 left2.length cf2 :: bN g2 m A l.length ca B ts.length cb C ns.length cc hd :: L) ++ [⟨g65, 3, []⟩]))) := E1
                   clear E1 E013
                   have H := E113.drop (L' := (bP g5 P rs.length cp (some ⟨bF, oF, none⟩) left.length cf :: bP g3 P2 rs2.length cp2 F2 left2.length cf2 :: bN g2 m A l.length ca B ts.length cb C ns.length cc hd :: L)) Sb.out)
                | (refine OPS.alloc rfl rfl rfl rfl (zero_run rfl) rfl E003 ?_
                   clear H; intro g10 w E1
                   have E103 : SH w0 [] w (bR g10 0 none 0 0 :: ((bP g5 P rs.length cp (some ⟨bF, oF, none⟩) left.length cf :: bP g3 P2 rs2.length cp2 F2 left2.length cf2 :: bN g2 m A l.length ca B ts.length cb C ns.length cc hd :: L) ++ [⟨g65, 3, []⟩])) := E1
                   clear E1 E003
                   have H := E103.drop (L' := (bP g5 P rs.length cp (some ⟨bF, oF, none⟩) left.length cf :: bP g3 P2 rs2.length cp2 F2 left2.length cf2 :: bN g2 m A l.length ca B ts.length cb C ns.length cc hd :: L)) Sb.out)
                | (refine OPS.alloc rfl rfl rfl rfl (zero_run rfl) rfl E010 ?_
                   clear H; intro g10 w E1
                   have E110 : SH w0 [] w (bR g10 0 none 0 0 :: (bM g73 [I v] :: ((bP g5 P rs.length cp (some ⟨bF, oF, none⟩) left.length cf :: bP g3 P2 rs2.length cp2 F2 left2.length cf2 :: bN g2 m A l.length ca B ts.length cb C ns.length cc hd :: L)))) := E1
                   clear E1 E010
                   have H := E110.drop (L' := (bP g5 P rs.length cp (some ⟨bF, oF, none⟩) left.length cf :: bP g3 P2 rs2.length cp2 F2 left2.length cf2 :: bN g2 m A l.length ca B ts.length cb C ns.length cc hd :: L)) Sb.out)
                | (refine OPS.alloc rfl rfl rfl rfl (zero_run rfl) rfl (E000.toBelow hbw15) ?_
                   clear H; intro g10 w E1
                   have E100 : SH w0 [] w (bR g10 0 none 0 0 :: ((bP g5 P rs.length cp (some ⟨bF, oF, none⟩) left.length cf :: bP g3 P2 rs2.length cp2 F2 left2.length cf2 :: bN g2 m A l.length ca B ts.length cb C ns.length cc hd :: L))) := E1
                   clear E1 E000
                   have H := E100.drop (L' := (bP g5 P rs.length cp (some ⟨bF, oF, none⟩) left.length cf :: bP g3 P2 rs2.length cp2 F2 left2.length cf2 :: bN g2 m A l.length ca B ts.length cb C ns.length cc hd :: L)) Sb.out)
                refine Y.z <| ⟨(H), ?_⟩
                refine Y.A1 13 rfl rfl <| Y.st 0 E119 rfl (cA rfl) rfl ?_
                clear H; intro w E1; clear E119
                simp only [List.set_cons_zero, putL] at E1
                have H := E1.drop (L' := (bP g5 P rs.length cp (some ⟨bF, oF, none⟩) left.length cf :: bP g3 P2 rs2.length cp2 F2 left2.length cf2 :: bN g2 m A l.length ca B ts.length cb C ns.length cc hd :: L)) Sb.out
                refine Y.z <| ⟨(H), ?_⟩
                refine Y.dn ?_
                exact ⟨Y.ag, AE, ce, Le, g10, rfl, hOE, E1.drop (List.Sublist.cons_cons _ (List.sublist_cons_self _ _))⟩
              · first
                | (refine OPS.alloc rfl rfl rfl rfl (zero_run rfl) rfl E019 ?_
                   clear H; intro g10 w E1
                   have E119 : SH w0 [] w (bR g10 0 none 0 0 :: (bM g73 [I v] :: ((bP g5 P rs.length cp (some ⟨bF, oF, none⟩) left.length cf :: bP g3 P2 rs2.length cp2 F2 left2.length cf2 :: bN g2 m A l.length ca B ts.length cb C ns.length cc hd :: L) ++ Le))) := E1
                   clear E1 E019
                   have H := E119.drop (L' := (bP g5 P rs.length cp (some ⟨bF, oF, none⟩) left.length cf :: bP g3 P2 rs2.length cp2 F2 left2.length cf2 :: bN g2 m A l.length ca B ts.length cb C ns.length cc hd :: L)) Sb.out)
                | (refine OPS.alloc rfl rfl rfl rfl (zero_run rfl) rfl E016 ?_
                   clear H; intro g10 w E1
                   have E116 : SH w0 [] w (bR g10 0 none 0 0 :: (bM g73 [I v] :: ((bP g5 P rs.length cp (some ⟨bF, oF, none⟩) left.length cf :: bP g3 P2 rs2.length cp2 F2 left2.length cf2 :: bN g2 m A l.length ca B ts.length cb C ns.length cc hd :: L) ++ Le))) := E1
                   clear E1 E016
                   have H := E116.drop (L' := (bP g5 P rs.length cp (some ⟨bF, oF, none⟩) left.length cf :: bP g3 P2 rs2.length cp2 F2 left2.length cf2 :: bN g2 m A l.length ca B ts.length cb C ns.length cc hd :: L)) Sb.out)
                | (refine OPS.alloc rfl rfl rfl rfl (zero_run rfl) rfl E006 ?_
                   clear H; intro g10 w E1
                   have E106 : SH w0 [] w (bR g10 0 none 0 0 :: ((bP g5 P rs.length cp (some ⟨bF, oF, none⟩) left.length cf :: bP g3 P2 rs2.length cp2 F2 left2.length cf2 :: bN g2 m A l.length ca B ts.length cb C ns.length cc hd :: L) ++ Le)) := E1
                   clear E1 E006
                   have H := E106.drop (L' := (bP g5 P rs.length cp (some ⟨bF, oF, none⟩) left.length cf :: bP g3 P2 rs2.length cp2 F2 left2.length cf2 :: bN g2 m A l.length ca B ts.length cb C ns.length cc hd :: L)) Sb.out)
                | (refine OPS.alloc rfl rfl rfl rfl (zero_run rfl) rfl E013 ?_
                   clear H; intro g10 w E1
                   have E113 : SH w0 [] w (bR g10 0 none 0 0 :: (bM g73 [I v] :: ((bP g5 P rs.length cp (some ⟨bF, oF, none⟩) left.length cf :: bP g3 P2 rs2.length cp2 F2 left2.length cf2 :: bN g2 m A l.length ca B ts.length cb C ns.length cc hd :: L) ++ [⟨g65, 3, []⟩]))) := E1
                   clear E1 E013
                   have H := E113.drop (L' := (bP g5 P rs.length cp (some ⟨bF, oF, none⟩) left.length cf :: bP g3 P2 rs2.length cp2 F2 left2.length cf2 :: bN g2 m A l.length ca B ts.length cb C ns.length cc hd :: L)) Sb.out)
                | (refine OPS.alloc rfl rfl rfl rfl (zero_run rfl) rfl E003 ?_
                   clear H; intro g10 w E1
                   have E103 : SH w0 [] w (bR g10 0 none 0 0 :: ((bP g5 P rs.length cp (some ⟨bF, oF, none⟩) left.length cf :: bP g3 P2 rs2.length cp2 F2 left2.length cf2 :: bN g2 m A l.length ca B ts.length cb C ns.length cc hd :: L) ++ [⟨g65, 3, []⟩])) := E1
                   clear E1 E003
                   have H := E103.drop (L' := (bP g5 P rs.length cp (some ⟨bF, oF, none⟩) left.length cf :: bP g3 P2 rs2.length cp2 F2 left2.length cf2 :: bN g2 m A l.length ca B ts.length cb C ns.length cc hd :: L)) Sb.out)
                | (refine OPS.alloc rfl rfl rfl rfl (zero_run rfl) rfl E010 ?_
                   clear H; intro g10 w E1
                   have E110 : SH w0 [] w (bR g10 0 none 0 0 :: (bM g73 [I v] :: ((bP g5 P rs.length cp (some ⟨bF, oF, none⟩) left.length cf :: bP g3 P2 rs2.length cp2 F2 left2.length cf2 :: bN g2 m A l.length ca B ts.length cb C ns.length cc hd :: L)))) := E1
                   clear E1 E010
                   have H := E110.drop (L' := (bP g5 P rs.length cp (some ⟨bF, oF, none⟩) left.length cf :: bP g3 P2 rs2.length cp2 F2 left2.length cf2 :: bN g2 m A l.length ca B ts.length cb C ns.length cc hd :: L)) Sb.out)
                | (refine OPS.alloc rfl rfl rfl rfl (zero_run rfl) rfl (E000.toBelow hbw15) ?_
                   clear H; intro g10 w E1
                   have E100 : SH w0 [] w (bR g10 0 none 0 0 :: ((bP g5 P rs.length cp (some ⟨bF, oF, none⟩) left.length cf :: bP g3 P2 rs2.length cp2 F2 left2.length cf2 :: bN g2 m A l.length ca B ts.length cb C ns.length cc hd :: L))) := E1
                   clear E1 E000
                   have H := E100.drop (L' := (bP g5 P rs.length cp (some ⟨bF, oF, none⟩) left.length cf :: bP g3 P2 rs2.length cp2 F2 left2.length cf2 :: bN g2 m A l.length ca B ts.length cb C ns.length cc hd :: L)) Sb.out)
                refine Y.z <| ⟨(H), ?_⟩
                refine Y.A1 10 rfl rfl ?_
                first
                | (refine OPS.append (m := 1) (news := [I v]) (R := bR g10 0 none 0 0 :: (bM g73 [I v] :: ((bP g5 P rs.length cp (some ⟨bF, oF, none⟩) left.length cf :: bP g3 P2 rs2.length cp2 F2 left2.length cf2 :: bN g2 m A l.length ca B ts.length cb C ns.length cc hd :: L)))) rfl rfl rfl rfl rfl (sl_run rfl) rfl rfl hOE rfl (src_own E116 1 rfl) rfl (by omega) (by unfold maxLen; omega) E116 (List.Perm.refl _) ?_
                   clear H hOE; intro AE ce Le w hOE E1
                   rw [show x.map I ++ [I v] = (x ++ [v]).map I by simp] at hOE
                   have E119 : SH w0 [] w (bR g10 0 none 0 0 :: (bM g73 [I v] :: ((bP g5 P rs.length cp (some ⟨bF, oF, none⟩) left.length cf :: bP g3 P2 rs2.length cp2 F2 left2.length cf2 :: bN g2 m A l.length ca B ts.length cb C ns.length cc hd :: L) ++ Le))) := E1
                   clear E1 E116
                   have H := E119.drop (L' := (bP g5 P rs.length cp (some ⟨bF, oF, none⟩) left.length cf :: bP g3 P2 rs2.length cp2 F2 left2.length cf2 :: bN g2 m A l.length ca B ts.length cb C ns.length cc hd :: L)) Sb.out)
                | (refine OPS.append (m := 1) (news := [I v]) (R := bM g73 [I v] :: ((bP g5 P rs.length cp (some ⟨bF, oF, none⟩) left.length cf :: bP g3 P2 rs2.length cp2 F2 left2.length cf2 :: bN g2 m A l.length ca B ts.length cb C ns.length cc hd :: L))) rfl rfl rfl rfl rfl (sl_run rfl) rfl rfl hOE rfl (src_own E016 0 rfl) rfl (by omega) (by unfold maxLen; omega) E016 (List.Perm.refl _) ?_
                   clear H hOE; intro AE ce Le w hOE E1
                   rw [show x.map I ++ [I v] = (x ++ [v]).map I by simp] at hOE
                   have E019 : SH w0 [] w (bM g73 [I v] :: ((bP g5 P rs.length cp (some ⟨bF, oF, none⟩) left.length cf :: bP g3 P2 rs2.length cp2 F2 left2.length cf2 :: bN g2 m A l.length ca B ts.length cb C ns.length cc hd :: L) ++ Le)) := E1
                   clear E1 E016
                   have H := E019.drop (L' := (bP g5 P rs.length cp (some ⟨bF, oF, none⟩) left.length cf :: bP g3 P2 rs2.length cp2 F2 left2.length cf2 :: bN g2 m A l.length ca B ts.length cb C ns.length cc hd :: L)) Sb.out)
                refine Y.z <| ⟨(H), ?_⟩
                refine Y.t 11 H rfl rfl (fun w H => Ev.build (bld_49_0_1 rfl rfl)) <| Y.A1 13 rfl rfl <| Y.st 0 E119 rfl (cA rfl) rfl ?_
                clear H; intro w E1; clear E119
                simp only [List.set_cons_zero, putL] at E1
                have H := E1.drop (L' := (bP g5 P rs.length cp (some ⟨bF, oF, none⟩) left.length cf :: bP g3 P2 rs2.length cp2 F2 left2.length cf2 :: bN g2 m A l.length ca B ts.length cb C ns.length cc hd :: L)) Sb.out
                refine Y.z <| ⟨(H), ?_⟩
                refine Y.dn ?_
                exact ⟨Y.ag, AE, ce, Le, g10, rfl, hOE, E1.drop (List.Sublist.cons_cons _ (List.sublist_cons_self _ _))⟩
            · first
              | (refine OPS.alloc rfl rfl rfl rfl (zero_run rfl) rfl E019 ?_
                 clear H; intro g10 w E1
                 have E119 : SH w0 [] w (bR g10 0 none 0 0 :: (bM g73 [I v] :: ((bP g5 P rs.length cp (some ⟨bF, oF, none⟩) left.length cf :: bP g3 P2 rs2.length cp2 F2 left2.length cf2 :: bN g2 m A l.length ca B ts.length cb C ns.length cc hd :: L) ++ Le))) := E1
                 clear E1 E019
                 have H := E119.drop (L' := (bP g5 P rs.length cp (some ⟨bF, oF, none⟩) left.length cf :: bP g3 P2 rs2.length cp2 F2 left2.length cf2 :: bN g2 m A l.length ca B ts.length cb C ns.length cc hd :: L)) Sb.out)
              | (refine OPS.alloc rfl rfl rfl rfl (zero_run rfl) rfl E016 ?_
                 clear H; intro g10 w E1
                 have E116 : SH w0 [] w (bR g10 0 none 0 0 :: (bM g73 [I v] :: ((bP g5 P rs.length cp (some ⟨bF, oF, none⟩) left.length cf :: bP g3 P2 rs2.length cp2 F2 left2.length cf2 :: bN g2 m A l.length ca B ts.length cb C ns.length cc hd :: L) ++ Le))) := E1
                 clear E1 E016
                 have H := E116.drop (L' := (bP g5 P rs.length cp (some ⟨bF, oF, none⟩) left.length cf :: bP g3 P2 rs2.length cp2 F2 left2.length cf2 :: bN g2 m A l.length ca B ts.length cb C ns.length cc hd :: L)) Sb.out)
              | (refine OPS.alloc rfl rfl rfl rfl (zero_run rfl) rfl E006 ?_
                 clear H; intro g10 w E1
                 have E106 : SH w0 [] w (bR g10 0 none 0 0 :: ((bP g5 P rs.length cp (some ⟨bF, oF, none⟩) left.length cf :: bP g3 P2 rs2.length cp2 F2 left2.length cf2 :: bN g2 m A l.length ca B ts.length cb C ns.length cc hd :: L) ++ Le)) := E1
                 clear E1 E006
                 have H := E106.drop (L' := (bP g5 P rs.length cp (some ⟨bF, oF, none⟩) left.length cf :: bP g3 P2 rs2.length cp2 F2 left2.length cf2 :: bN g2 m A l.length ca B ts.length cb C ns.length cc hd :: L)) Sb.out)
              | (refine OPS.alloc rfl rfl rfl rfl (zero_run rfl) rfl E013 ?_
                 clear H; intro g10 w E1
                 have E113 : SH w0 [] w (bR g10 0 none 0 0 :: (bM g73 [I v] :: ((bP g5 P rs.length cp (some ⟨bF, oF, none⟩) left.length cf :: bP g3 P2 rs2.length cp2 F2 left2.length cf2 :: bN g2 m A l.length ca B ts.length cb C ns.length cc hd :: L) ++ [⟨g65, 3, []⟩]))) := E1
                 clear E1 E013
                 have H := E113.drop (L' := (bP g5 P rs.length cp (some ⟨bF, oF, none⟩) left.length cf :: bP g3 P2 rs2.length cp2 F2 left2.length cf2 :: bN g2 m A l.length ca B ts.length cb C ns.length cc hd :: L)) Sb.out)
              | (refine OPS.alloc rfl rfl rfl rfl (zero_run rfl) rfl E003 ?_
                 clear H; intro g10 w E1
                 have E103 : SH w0 [] w (bR g10 0 none 0 0 :: ((bP g5 P rs.length cp (some ⟨bF, oF, none⟩) left.length cf :: bP g3 P2 rs2.length cp2 F2 left2.length cf2 :: bN g2 m A l.length ca B ts.length cb C ns.length cc hd :: L) ++ [⟨g65, 3, []⟩])) := E1
                 clear E1 E003
                 have H := E103.drop (L' := (bP g5 P rs.length cp (some ⟨bF, oF, none⟩) left.length cf :: bP g3 P2 rs2.length cp2 F2 left2.length cf2 :: bN g2 m A l.length ca B ts.length cb C ns.length cc hd :: L)) Sb.out)
              | (refine OPS.alloc rfl rfl rfl rfl (zero_run rfl) rfl E010 ?_
                 clear H; intro g10 w E1
                 have E110 : SH w0 [] w (bR g10 0 none 0 0 :: (bM g73 [I v] :: ((bP g5 P rs.length cp (some ⟨bF, oF, none⟩) left.length cf :: bP g3 P2 rs2.length cp2 F2 left2.length cf2 :: bN g2 m A l.length ca B ts.length cb C ns.length cc hd :: L)))) := E1
                 clear E1 E010
                 have H := E110.drop (L' := (bP g5 P rs.length cp (some ⟨bF, oF, none⟩) left.length cf :: bP g3 P2 rs2.length cp2 F2 left2.length cf2 :: bN g2 m A l.length ca B ts.length cb C ns.length cc hd :: L)) Sb.out)
              | (refine OPS.alloc rfl rfl rfl rfl (zero_run rfl) rfl (E000.toBelow hbw15) ?_
                 clear H; intro g10 w E1
                 have E100 : SH w0 [] w (bR g10 0 none 0 0 :: ((bP g5 P rs.length cp (some ⟨bF, oF, none⟩) left.length cf :: bP g3 P2 rs2.length cp2 F2 left2.length cf2 :: bN g2 m A l.length ca B ts.length cb C ns.length cc hd :: L))) := E1
                 clear E1 E000
                 have H := E100.drop (L' := (bP g5 P rs.length cp (some ⟨bF, oF, none⟩) left.length cf :: bP g3 P2 rs2.length cp2 F2 left2.length cf2 :: bN g2 m A l.length ca B ts.length cb C ns.length cc hd :: L)) Sb.out)
              refine Y.z <| ⟨(H), ?_⟩
              refine Y.A1 3 rfl rfl ?_
              first
              | (refine OPS.appendE (m := x.length) (news := x.map I) (R := bR g10 0 none 0 0 :: (bM g73 [I v] :: ((bP g5 P rs.length cp (some ⟨bF, oF, none⟩) left.length cf :: bP g3 P2 rs2.length cp2 F2 left2.length cf2 :: bN g2 m A l.length ca B ts.length cb C ns.length cc hd :: L)))) rfl rfl rfl rfl rfl (sl_run rfl) rfl rfl (OwnS.mt (g := g65)) (by simp) (intsFrom (hXw _ H)) (intsOne x) (by omega) (by unfold maxLen; omega) E113 (List.Perm.refl _) ?_
                 clear H; intro AE ce Le w hOE E1
                 have E116 : SH w0 [] w (bR g10 0 none 0 0 :: (bM g73 [I v] :: ((bP g5 P rs.length cp (some ⟨bF, oF, none⟩) left.length cf :: bP g3 P2 rs2.length cp2 F2 left2.length cf2 :: bN g2 m A l.length ca B ts.length cb C ns.length cc hd :: L) ++ Le))) := E1
                 clear E1 E113
                 rw [Nat.zero_add, List.nil_append] at hOE
                 rw [show 0 + x.length = x.length from Nat.zero_add _]
                 have H := E116.drop (L' := (bP g5 P rs.length cp (some ⟨bF, oF, none⟩) left.length cf :: bP g3 P2 rs2.length cp2 F2 left2.length cf2 :: bN g2 m A l.length ca B ts.length cb C ns.length cc hd :: L)) Sb.out)
              | (refine OPS.appendE (m := x.length) (news := x.map I) (R := bR g10 0 none 0 0 :: ((bP g5 P rs.length cp (some ⟨bF, oF, none⟩) left.length cf :: bP g3 P2 rs2.length cp2 F2 left2.length cf2 :: bN g2 m A l.length ca B ts.length cb C ns.length cc hd :: L))) rfl rfl rfl rfl rfl (sl_run rfl) rfl rfl (OwnS.mt (g := g65)) (by simp) (intsFrom (hXw _ H)) (intsOne x) (by omega) (by unfold maxLen; omega) E103 (List.Perm.refl _) ?_
                 clear H; intro AE ce Le w hOE E1
                 have E106 : SH w0 [] w (bR g10 0 none 0 0 :: ((bP g5 P rs.length cp (some ⟨bF, oF, none⟩) left.length cf :: bP g3 P2 rs2.length cp2 F2 left2.length cf2 :: bN g2 m A l.length ca B ts.length cb C ns.length cc hd :: L) ++ Le)) := E1
                 clear E1 E103
                 rw [Nat.zero_add, List.nil_append] at hOE
                 rw [show 0 + x.length = x.length from Nat.zero_add _]
                 have H := E106.drop (L' := (bP g5 P rs.length cp (some ⟨bF, oF, none⟩) left.length cf :: bP g3 P2 rs2.length cp2 F2 left2.length cf2 :: bN g2 m A l.length ca B ts.length cb C ns.length cc hd :: L)) Sb.out)
              | (refine OPS.appendE (m := x.length) (news := x.map I) (R := bM g73 [I v] :: ((bP g5 P rs.length cp (some ⟨bF, oF, none⟩) left.length cf :: bP g3 P2 rs2.length cp2 F2 left2.length cf2 :: bN g2 m A l.length ca B ts.length cb C ns.length cc hd :: L))) rfl rfl rfl rfl rfl (sl_run rfl) rfl rfl (OwnS.mt (g := g65)) (by simp) (intsFrom (hXw _ H)) (intsOne x) (by omega) (by unfold maxLen; omega) E013 (List.Perm.refl _) ?_
                 clear H; intro AE ce Le w hOE E1
                 have E016 : SH w0 [] w (bM g73 [I v] :: ((bP g5 P rs.length cp (some ⟨bF, oF, none⟩) left.length cf :: bP g3 P2 rs2.length cp2 F2 left2.length cf2 :: bN g2 m A l.length ca B ts.length cb C ns.length cc hd :: L) ++ Le)) := E1
                 clear E1 E013
                 rw [Nat.zero_add, List.nil_append] at hOE
                 rw [show 0 + x.length = x.length from Nat.zero_add _]
                 have H := E016.drop (L' := (bP g5 P rs.length cp (some ⟨bF, oF, none⟩) left.length cf :: bP g3 P2 rs2.length cp2 F2 left2.length cf2 :: bN g2 m A l.length ca B ts.length cb C ns.length cc hd :: L)) Sb.out)
              | (refine OPS.appendE (m := x.length) (news := x.map I) (R := (bP g5 P rs.length cp (some ⟨bF, oF, none⟩) left.length cf :: bP g3 P2 rs2.length cp2 F2 left2.length cf2 :: bN g2 m A l.length ca B ts.length cb C ns.length cc hd :: L)) rfl rfl rfl rfl rfl (sl_run rfl) rfl rfl (OwnS.mt (g := g65)) (by simp) (intsFrom (hXw _ H)) (intsOne x) (by omega) (by unfold maxLen; omega) E003 (List.Perm.refl _) ?_
                 clear H; intro AE ce Le w hOE E1
                 have E006 : SH w0 [] w ((bP g5 P rs.length cp (some ⟨bF, oF, none⟩) left.length cf :: bP g3 P2 rs2.length cp2 F2 left2.length cf2 :: bN g2 m A l.length ca B ts.length cb C ns.length cc hd :: L) ++ Le) := E1
                 clear E1 E003
                 rw [Nat.zero_add, List.nil_append] at hOE
                 rw [show 0 + x.length = x.length from Nat.zero_add _]
                 have H := E006.drop (L' := (bP g5 P rs.length cp (some ⟨bF, oF, none⟩) left.length cf :: bP g3 P2 rs2.length cp2 F2 left2.length cf2 :: bN g2 m A l.length ca B ts.length cb C ns.length cc hd :: L)) Sb.out)
              refine Y.z <| ⟨(H), ?_⟩
              refine Y.A1 10 rfl rfl ?_
              first
              | (refine OPS.append (m := 1) (news := [I v]) (R := bR g10 0 none 0 0 :: (bM g73 [I v] :: ((bP g5 P rs.length cp (some ⟨bF, oF, none⟩) left.length cf :: bP g3 P2 rs2.length cp2 F2 left2.length cf2 :: bN g2 m A l.length ca B ts.length cb C ns.length cc hd :: L)))) rfl rfl rfl rfl rfl (sl_run rfl) rfl rfl hOE rfl (src_own E116 1 rfl) rfl (by omega) (by unfold maxLen; omega) E116 (List.Perm.refl _) ?_
                 clear H hOE; intro AE ce Le w hOE E1
                 rw [show x.map I ++ [I v] = (x ++ [v]).map I by simp] at hOE
                 have E119 : SH w0 [] w (bR g10 0 none 0 0 :: (bM g73 [I v] :: ((bP g5 P rs.length cp (some ⟨bF, oF, none⟩) left.length cf :: bP g3 P2 rs2.length cp2 F2 left2.length cf2 :: bN g2 m A l.length ca B ts.length cb C ns.length cc hd :: L) ++ Le))) := E1
                 clear E1 E116
                 have H := E119.drop (L' := (bP g5 P rs.length cp (some ⟨bF, oF, none⟩) left.length cf :: bP g3 P2 rs2.length cp2 F2 left2.length cf2 :: bN g2 m A l.length ca B ts.length cb C ns.length cc hd :: L)) Sb.out)
              | (refine OPS.append (m := 1) (news := [I v]) (R := bM g73 [I v] :: ((bP g5 P rs.length cp (some ⟨bF, oF, none⟩) left.length cf :: bP g3 P2 rs2.length cp2 F2 left2.length cf2 :: bN g2 m A l.length ca B ts.length cb C ns.length cc hd :: L))) rfl rfl rfl rfl rfl (sl_run rfl) rfl rfl hOE rfl (src_own E016 0 rfl) rfl (by omega) (by unfold maxLen; omega) E016 (List.Perm.refl _) ?_
                 clear H hOE; intro AE ce Le w hOE E1
                 rw [show x.map I ++ [I v] = (x ++ [v]).map I by simp] at hOE
                 have E019 : SH w0 [] w (bM g73 [I v] :: ((bP g5 P rs.length cp (some ⟨bF, oF, none⟩) left.length cf :: bP g3 P2 rs2.length cp2 F2 left2.length cf2 :: bN g2 m A l.length ca B ts.length cb C ns.length cc hd :: L) ++ Le)) := E1
                 clear E1 E016
                 have H := E019.drop (L' := (bP g5 P rs.length cp (some ⟨bF, oF, none⟩) left.length cf :: bP g3 P2 rs2.length cp2 F2 left2.length cf2 :: bN g2 m A l.length ca B ts.length cb C ns.length cc hd :: L)) Sb.out)
              refine Y.z <| ⟨(H), ?_⟩
              refine Y.t 11 H rfl rfl (fun w H => Ev.build (bld_49_0_1 rfl rfl)) <| Y.A1 13 rfl rfl <| Y.st 0 E119 rfl (cA rfl) rfl ?_
              clear H; intro w E1; clear E119
              simp only [List.set_cons_zero, putL] at E1
              have H := E1.drop (L' := (bP g5 P rs.length cp (some ⟨bF, oF, none⟩) left.length cf :: bP g3 P2 rs2.length cp2 F2 left2.length cf2 :: bN g2 m A l.length ca B ts.length cb C ns.length cc hd :: L)) Sb.out
              refine Y.z <| ⟨(H), ?_⟩
              refine Y.dn ?_
              exact ⟨Y.ag, AE, ce, Le, g10, rfl, hOE, E1.drop (List.Sublist.cons_cons _ (List.sublist_cons_self _ _))⟩
          · first
            | (refine OPS.alloc rfl rfl rfl rfl (zero_run rfl) rfl E019 ?_
               clear H; intro g10 w E1
               have E119 : SH w0 [] w (bR g10 0 none 0 0 :: (bM g73 [I v] :: ((bP g5 P rs.length cp (some ⟨bF, oF, none⟩) left.length cf :: bP g3 P2 rs2.length cp2 F2 left2.length cf2 :: bN g2 m A l.length ca B ts.length cb C ns.length cc hd :: L) ++ Le))) := E1
               clear E1 E019
               have H := E119.drop (L' := (bP g5 P rs.length cp (some ⟨bF, oF, none⟩) left.length cf :: bP g3 P2 rs2.length cp2 F2 left2.length cf2 :: bN g2 m A l.length ca B ts.length cb C ns.length cc hd :: L)) Sb.out)
            | (refine OPS.alloc rfl rfl rfl rfl (zero_run rfl) rfl E016 ?_
               clear H; intro g10 w E1
               have E116 : SH w0 [] w (bR g10 0 none 0 0 :: (bM g73 [I v] :: ((bP g5 P rs.length cp (some ⟨bF, oF, none⟩) left.length cf :: bP g3 P2 rs2.length cp2 F2 left2.length cf2 :: bN g2 m A l.length ca B ts.length cb C ns.length cc hd :: L) ++ Le))) := E1
               clear E1 E016
               have H := E116.drop (L' := (bP g5 P rs.length cp (some ⟨bF, oF, none⟩) left.length cf :: bP g3 P2 rs2.length cp2 F2 left2.length cf2 :: bN g2 m A l.length ca B ts.length cb C ns.length cc hd :: L)) Sb.out)
            | (refine OPS.alloc rfl rfl rfl rfl (zero_run rfl) rfl E006 ?_
               clear H; intro g10 w E1
               have E106 : SH w0 [] w (bR g10 0 none 0 0 :: ((bP g5 P rs.length cp (some ⟨bF, oF, none⟩) left.length cf :: bP g3 P2 rs2.length cp2 F2 left2.length cf2 :: bN g2 m A l.length ca B ts.length cb C ns.length cc hd :: L) ++ Le)) := E1
               clear E1 E006
               have H := E106.drop (L' := (bP g5 P rs.length cp (some ⟨bF, oF, none⟩) left.length cf :: bP g3 P2 rs2.length cp2 F2 left2.length cf2 :: bN g2 m A l.length ca B ts.length cb C ns.length cc hd :: L)) Sb.out)
            | (refine OPS.alloc rfl rfl rfl rfl (zero_run rfl) rfl E013 ?_
               clear H; intro g10 w E1
               have E113 : SH w0 [] w (bR g10 0 none 0 0 :: (bM g73 [I v] :: ((bP g5 P rs.length cp (some ⟨bF, oF, none⟩) left.length cf :: bP g3 P2 rs2.length cp2 F2 left2.length cf2 :: bN g2 m A l.length ca B ts.length cb C ns.length cc hd :: L) ++ [⟨g65, 3, []⟩]))) := E1
               clear E1 E013
               have H := E113.drop (L' := (bP g5 P rs.length cp (some ⟨bF, oF, none⟩) left.length cf :: bP g3 P2 rs2.length cp2 F2 left2.length cf2 :: bN g2 m A l.length ca B ts.length cb C ns.length cc hd :: L)) Sb.out)
            | (refine OPS.alloc rfl rfl rfl rfl (zero_run rfl) rfl E003 ?_
               clear H; intro g10 w E1
               have E103 : SH w0 [] w (bR g10 0 none 0 0 :: ((bP g5 P rs.length cp (some ⟨bF, oF, none⟩) left.length cf :: bP g3 P2 rs2.length cp2 F2 left2.length cf2 :: bN g2 m A l.length ca B ts.length cb C ns.length cc hd :: L) ++ [⟨g65, 3, []⟩])) := E1
               clear E1 E003
               have H := E103.drop (L' := (bP g5 P rs.length cp (some ⟨bF, oF, none⟩) left.length cf :: bP g3 P2 rs2.length cp2 F2 left2.length cf2 :: bN g2 m A l.length ca B ts.length cb C ns.length cc hd :: L)) Sb.out)
            | (refine OPS.alloc rfl rfl rfl rfl (zero_run rfl) rfl E010 ?_
               clear H; intro g10 w E1
               have E110 : SH w0 [] w (bR g10 0 none 0 0 :: (bM g73 [I v] :: ((bP g5 P rs.length cp (some ⟨bF, oF, none⟩) left.length cf :: bP g3 P2 rs2.length cp2 F2 left2.length cf2 :: bN g2 m A l.length ca B ts.length cb C ns.length cc hd :: L)))) := E1
               clear E1 E010
               have H := E110.drop (L' := (bP g5 P rs.length cp (some ⟨bF, oF, none⟩) left.length cf :: bP g3 P2 rs2.length cp2 F2 left2.length cf2 :: bN g2 m A l.length ca B ts.length cb C ns.length cc hd :: L)) Sb.out)
            | (refine OPS.alloc rfl rfl rfl rfl (zero_run rfl) rfl (E000.toBelow hbw15) ?_
               clear H; intro g10 w E1
               have E100 : SH w0 [] w (bR g10 0 none 0 0 :: ((bP g5 P rs.length cp (some ⟨bF, oF, none⟩) left.length cf :: bP g3 P2 rs2.length cp2 F2 left2.length cf2 :: bN g2 m A l.length ca B ts.length cb C ns.length cc hd :: L))) := E1
               clear E1 E000
               have H := E100.drop (L' := (bP g5 P rs.length cp (some ⟨bF, oF, none⟩) left.length cf :: bP g3 P2 rs2.length cp2 F2 left2.length cf2 :: bN g2 m A l.length ca B ts.length cb C ns.length cc hd :: L)) Sb.out)
            refine Y.z <| ⟨(H), ?_⟩
            refine Y.A2 3 9 rfl rfl rfl ?_ ?_
            · first
              | (refine OPS.appendE (m := x.length) (news := x.map I) (R := bR g10 0 none 0 0 :: (bM g73 [I v] :: ((bP g5 P rs.length cp (some ⟨bF, oF, none⟩) left.length cf :: bP g3 P2 rs2.length cp2 F2 left2.length cf2 :: bN g2 m A l.length ca B ts.length cb C ns.length cc hd :: L)))) rfl rfl rfl rfl rfl (sl_run rfl) rfl rfl (OwnS.mt (g := g65)) (by simp) (intsFrom (hXw _ H)) (intsOne x) (by omega) (by unfold maxLen; omega) E113 (List.Perm.refl _) ?_
                 clear H; intro AE ce Le w hOE E1
                 have E116 : SH w0 [] w (bR g10 0 none 0 0 :: (bM g73 [I v] :: ((bP g5 P rs.length cp (some ⟨bF, oF, none⟩) left.length cf :: bP g3 P2 rs2.length cp2 F2 left2.length cf2 :: bN g2 m A l.length ca B ts.length cb C ns.length cc hd :: L) ++ Le))) := E1
                 clear E1 E113
                 rw [Nat.zero_add, List.nil_append] at hOE
                 rw [show 0 + x.length = x.length from Nat.zero_add _]
                 have H := E116.drop (L' := (bP g5 P rs.length cp (some ⟨bF, oF, none⟩) left.length cf :: bP g3 P2 rs2.length cp2 F2 left2.length cf2 :: bN g2 m A l.length ca B ts.length cb C ns.length cc hd :: L)) Sb.out)
              | (refine OPS.appendE (m := x.length) (news := x.map I) (R := bR g10 0 none 0 0 :: ((bP g5 P rs.length cp (some ⟨bF, oF, none⟩) left.length cf :: bP g3 P2 rs2.length cp2 F2 left2.length cf2 :: bN g2 m A l.length ca B ts.length cb C ns.length cc hd :: L))) rfl rfl rfl rfl rfl (sl_run rfl) rfl rfl (OwnS.mt (g := g65)) (by simp) (intsFrom (hXw _ H)) (intsOne x) (by omega) (by unfold maxLen; omega) E103 (List.Perm.refl _) ?_
                 clear H; intro AE ce Le w hOE E1
                 have E106 : SH w0 [] w (bR g10 0 none 0 0 :: ((bP g5 P rs.length cp (some ⟨bF, oF, none⟩) left.length cf :: bP g3 P2 rs2.length cp2 F2 left2.length cf2 :: bN g2 m A l.length ca B ts.length cb C ns.length cc hd :: L) ++ Le)) := E1
                 clear E1 E103
                 rw [Nat.zero_add, List.nil_append] at hOE
                 rw [show 0 + x.length = x.length from Nat.zero_add _]
                 have H := E106.drop (L' := (bP g5 P rs.length cp (some ⟨bF, oF, none⟩) left.length cf :: bP g3 P2 rs2.length cp2 F2 left2.length cf2 :: bN g2 m A l.length ca B ts.length cb C ns.length cc hd :: L)) Sb.out)
              | (refine OPS.appendE (m := x.length) (news := x.map I) (R := bM g73 [I v] :: ((bP g5 P rs.length cp (some ⟨bF, oF, none⟩) left.length cf :: bP g3 P2 rs2.length cp2 F2 left2.length cf2 :: bN g2 m A l.length ca B ts.length cb C ns.length cc hd :: L))) rfl rfl rfl rfl rfl (sl_run rfl) rfl rfl (OwnS.mt (g := g65)) (by simp) (intsFrom (hXw _ H)) (intsOne x) (by omega) (by unfold maxLen; omega) E013 (List.Perm.refl _) ?_
                 clear H; intro AE ce Le w hOE E1
                 have E016 : SH w0 [] w (bM g73 [I v] :: ((bP g5 P rs.length cp (some ⟨bF, oF, none⟩) left.length cf :: bP g3 P2 rs2.length cp2 F2 left2.length cf2 :: bN g2 m A l.length ca B ts.length cb C ns.length cc hd :: L) ++ Le)) := E1
                 clear E1 E013
                 rw [Nat.zero_add, List.nil_append] at hOE
                 rw [show 0 + x.length = x.length from Nat.zero_add _]
                 have H := E016.drop (L' := (bP g5 P rs.length cp (some ⟨bF, oF, none⟩) left.length cf :: bP g3 P2 rs2.length cp2 F2 left2.length cf2 :: bN g2 m A l.length ca B ts.length cb C ns.length cc hd :: L)) Sb.out)
              | (refine OPS.appendE (m := x.length) (news := x.map I) (R := (bP g5 P rs.length cp (some ⟨bF, oF, none⟩) left.length cf :: bP g3 P2 rs2.length cp2 F2 left2.length cf2 :: bN g2 m A l.length ca B ts.length cb C ns.length cc hd :: L)) rfl rfl rfl rfl rfl (sl_run rfl) rfl rfl (OwnS.mt (g := g65)) (by simp) (intsFrom (hXw _ H)) (intsOne x) (by omega) (by unfold maxLen; omega) E003 (List.Perm.refl _) ?_
                 clear H; intro AE ce Le w hOE E1
                 have E006 : SH w0 [] w ((bP g5 P rs.length cp (some ⟨bF, oF, none⟩) left.length cf :: bP g3 P2 rs2.length cp2 F2 left2.length cf2 :: bN g2 m A l.length ca B ts.length cb C ns.length cc hd :: L) ++ Le) := E1
                 clear E1 E003
                 rw [Nat.zero_add, List.nil_append] at hOE
                 rw [show 0 + x.length = x.length from Nat.zero_add _]
                 have H := E006.drop (L' := (bP g5 P rs.length cp (some ⟨bF, oF, none⟩) left.length cf :: bP g3 P2 rs2.length cp2 F2 left2.length cf2 :: bN g2 m A l.length ca B ts.length cb C ns.length cc hd :: L)) Sb.out)
              refine Y.z <| ⟨(H), ?_⟩
              refine Y.A1 9 rfl rfl ?_
              first
              | (refine OPS.buildSlice rfl rfl rfl rfl (bsl_32_1_0 rfl) E106 ?_
                 clear H; intro g73 w E1
                 have E116 : SH w0 [] w (bR g10 0 none 0 0 :: (bM g73 [I v] :: ((bP g5 P rs.length cp (some ⟨bF, oF, none⟩) left.length cf :: bP g3 P2 rs2.length cp2 F2 left2.length cf2 :: bN g2 m A l.length ca B ts.length cb C ns.length cc hd :: L) ++ Le))) := E1.perm (List.Perm.swap _ _ _)
                 clear E1 E106
                 have H := E116.drop (L' := (bP g5 P rs.length cp (some ⟨bF, oF, none⟩) left.length cf :: bP g3 P2 rs2.length cp2 F2 left2.length cf2 :: bN g2 m A l.length ca B ts.length cb C ns.length cc hd :: L)) Sb.out)
              | (refine OPS.buildSlice rfl rfl rfl rfl (bsl_32_1_0 rfl) E103 ?_
                 clear H; intro g73 w E1
                 have E113 : SH w0 [] w (bR g10 0 none 0 0 :: (bM g73 [I v] :: ((bP g5 P rs.length cp (some ⟨bF, oF, none⟩) left.length cf :: bP g3 P2 rs2.length cp2 F2 left2.length cf2 :: bN g2 m A l.length ca B ts.length cb C ns.length cc hd :: L) ++ [⟨g65, 3, []⟩]))) := E1.perm (List.Perm.swap _ _ _)
                 clear E1 E103
                 have H := E113.drop (L' := (bP g5 P rs.length cp (some ⟨bF, oF, none⟩) left.length cf :: bP g3 P2 rs2.length cp2 F2 left2.length cf2 :: bN g2 m A l.length ca B ts.length cb C ns.length cc hd :: L)) Sb.out)
              | (refine OPS.buildSlice rfl rfl rfl rfl (bsl_32_1_0 rfl) E100 ?_
                 clear H; intro g73 w E1
                 have E110 : SH w0 [] w (bR g10 0 none 0 0 :: (bM g73 [I v] :: ((bP g5 P rs.length cp (some ⟨bF, oF, none⟩) left.length cf :: bP g3 P2 rs2.length cp2 F2 left2.length cf2 :: bN g2 m A l.length ca B ts.length cb C ns.length cc hd :: L)))) := E1.perm (List.Perm.swap _ _ _)
                 clear E1 E100
                 have H := E110.drop (L' := (bP g5 P rs.length cp (some ⟨bF, oF, none⟩) left.length cf :: bP g3 P2 rs2.length cp2 F2 left2.length cf2 :: bN g2 m A l.length ca B ts.length cb C ns.length cc hd :: L)) Sb.out)
              | (refine OPS.buildSlice rfl rfl rfl rfl (bsl_32_1_0 rfl) E006 ?_
                 clear H; intro g73 w E1
                 have E016 : SH w0 [] w (bM g73 [I v] :: ((bP g5 P rs.length cp (some ⟨bF, oF, none⟩) left.length cf :: bP g3 P2 rs2.length cp2 F2 left2.length cf2 :: bN g2 m A l.length ca B ts.length cb C ns.length cc hd :: L) ++ Le)) := E1
                 clear E1 E006
                 have H := E016.drop (L' := (bP g5 P rs.length cp (some ⟨bF, oF, none⟩) left.length cf :: bP g3 P2 rs2.length cp2 F2 left2.length cf2 :: bN g2 m A l.length ca B ts.length cb C ns.length cc hd :: L)) Sb.out)
              | (refine OPS.buildSlice rfl rfl rfl rfl (bsl_32_1_0 rfl) E003 ?_
                 clear H; intro g73 w E1
                 have E013 : SH w0 [] w (bM g73 [I v] :: ((bP g5 P rs.length cp (some ⟨bF, oF, none⟩) left.length cf :: bP g3 P2 rs2.length cp2 F2 left2.length cf2 :: bN g2 m A l.length ca B ts.length cb C ns.length cc hd :: L) ++ [⟨g65, 3, []⟩])) := E1
                 clear E1 E003
                 have H := E013.drop (L' := (bP g5 P rs.length cp (some ⟨bF, oF, none⟩) left.length cf :: bP g3 P2 rs2.length cp2 F2 left2.length cf2 :: bN g2 m A l.length ca B ts.length cb C ns.length cc hd :: L)) Sb.out)
              | (refine OPS.buildSlice rfl rfl rfl rfl (bsl_32_1_0 rfl) (E000.toBelow hbw15) ?_
                 clear H; intro g73 w E1
                 have E010 : SH w0 [] w (bM g73 [I v] :: ((bP g5 P rs.length cp (some ⟨bF, oF, none⟩) left.length cf :: bP g3 P2 rs2.length cp2 F2 left2.length cf2 :: bN g2 m A l.length ca B ts.length cb C ns.length cc hd :: L))) := E1
                 clear E1 E000
                 have H := E010.drop (L' := (bP g5 P rs.length cp (some ⟨bF, oF, none⟩) left.length cf :: bP g3 P2 rs2.length cp2 F2 left2.length cf2 :: bN g2 m A l.length ca B ts.length cb C ns.length cc hd :: L)) Sb.out)
              refine Y.z <| ⟨(H), ?_⟩
              refine Y.A1 10 rfl rfl ?_
              first
              | (refine OPS.append (m := 1) (news := [I v]) (R := bR g10 0 none 0 0 :: (bM g73 [I v] :: ((bP g5 P rs.length cp (some ⟨bF, oF, none⟩) left.length cf :: bP g3 P2 rs2.length cp2 F2 left2.length cf2 :: bN g2 m A l.length ca B ts.length cb C ns.length cc hd :: L)))) rfl rfl rfl rfl rfl (sl_run rfl) rfl rfl hOE rfl (src_own E116 1 rfl) rfl (by omega) (by unfold maxLen; omega) E116 (List.Perm.refl _) ?_
                 clear H hOE; intro AE ce Le w hOE E1
                 rw [show x.map I ++ [I v] = (x ++ [v]).map I by simp] at hOE
                 have E119 : SH w0 [] w (bR g10 0 none 0 0 :: (bM g73 [I v] :: ((bP g5 P rs.length cp (some ⟨bF, oF, none⟩) left.length cf :: bP g3 P2 rs2.length cp2 F2 left2.length cf2 :: bN g2 m A l.length ca B ts.length cb C ns.length cc hd :: L) ++ Le))) := E1
                 clear E1 E116
                 have H := E119.drop (L' := (bP g5 P rs.length cp (some ⟨bF, oF, none⟩) left.length cf :: bP g3 P2 rs2.length cp2 F2 left2.length cf2 :: bN g2 m A l.length ca B ts.length cb C ns.length cc hd :: L)) Sb.out)
              | (refine OPS.append (m := 1) (news := [I v]) (R := bM g73 [I v] :: ((bP g5 P rs.length cp (some ⟨bF, oF, none⟩) left.length cf :: bP g3 P2 rs2.length cp2 F2 left2.length cf2 :: bN g2 m A l.length ca B ts.length cb C ns.length cc hd :: L))) rfl rfl rfl rfl rfl (sl_run rfl) rfl rfl hOE rfl (src_own E016 0 rfl) rfl (by omega) (by unfold maxLen; omega) E016 (List.Perm.refl _) ?_
                 clear H hOE; intro AE ce Le w hOE E1
                 rw [show x.map I ++ [I v] = (x ++ [v]).map I by simp] at hOE
                 have E019 : SH w0 [] w (bM g73 [I v] :: ((bP g5 P rs.length cp (some ⟨bF, oF, none⟩) left.length cf :: bP g3 P2 rs2.length cp2 F2 left2.length cf2 :: bN g2 m A l.length ca B ts.length cb C ns.length cc hd :: L) ++ Le)) := E1
                 clear E1 E016
                 have H := E019.drop (L' := (bP g5 P rs.length cp (some ⟨bF, oF, none⟩) left.length cf :: bP g3 P2 rs2.length cp2 F2 left2.length cf2 :: bN g2 m A l.length ca B ts.length cb C ns.length cc hd :: L)) Sb.out)
              refine Y.z <| ⟨(H), ?_⟩
              refine Y.t 11 H rfl rfl (fun w H => Ev.build (bld_49_0_1 rfl rfl)) <| Y.A1 13 rfl rfl <| Y.st 0 E119 rfl (cA rfl) rfl ?_
              clear H; intro w E1; clear E119
              simp only [List.set_cons_zero, putL] at E1
              have H := E1.drop (L' := (bP g5 P rs.length cp (some ⟨bF, oF, none⟩) left.length cf :: bP g3 P2 rs2.length cp2 F2 left2.length cf2 :: bN g2 m A l.length ca B ts.length cb C ns.length cc hd :: L)) Sb.out
              refine Y.z <| ⟨(H), ?_⟩
              refine Y.dn ?_
              exact ⟨Y.ag, AE, ce, Le, g10, rfl, hOE, E1.drop (List.Sublist.cons_cons _ (List.sublist_cons_self _ _))⟩
            · first
              | (refine OPS.buildSlice rfl rfl rfl rfl (bsl_32_1_0 rfl) E106 ?_
                 clear H; intro g73 w E1
                 have E116 : SH w0 [] w (bR g10 0 none 0 0 :: (bM g73 [I v] :: ((bP g5 P rs.length cp (some ⟨bF, oF, none⟩) left.length cf :: bP g3 P2 rs2.length cp2 F2 left2.length cf2 :: bN g2 m A l.length ca B ts.length cb C ns.length cc hd :: L) ++ Le))) := E1.perm (List.Perm.swap _ _ _)
                 clear E1 E106
                 have H := E116.drop (L' := (bP g5 P rs.length cp (some ⟨bF, oF, none⟩) left.length cf :: bP g3 P2 rs2.length cp2 F2 left2.length cf2 :: bN g2 m A l.length ca B ts.length cb C ns.length cc hd :: L)) Sb.out)
              | (refine OPS.buildSlice rfl rfl rfl rfl (bsl_32_1_0 rfl) E103 ?_
                 clear H; intro g73 w E1
                 have E113 : SH w0 [] w (bR g10 0 none 0 0 :: (bM g73 [I v] :: ((bP g5 P rs.length cp (some ⟨bF, oF, none⟩) left.length cf :: bP g3 P2 rs2.length cp2 F2 left2.length cf2 :: bN g2 m A l.length ca B ts.length cb C ns.length cc hd :: L) ++ [⟨g65, 3, []⟩]))) := E1.perm (List.Perm.swap _ _ _)
                 clear E1 E103
                 have H := E113.drop (L' := (bP g5 P rs.length cp (some ⟨bF, oF, none⟩) left.length cf :: bP g3 P2 rs2.length cp2 F2 left2.length cf2 :: bN g2 m A l.length ca B ts.length cb C ns.length cc hd :: L)) Sb.out)
              | (refine OPS.buildSlice rfl rfl rfl rfl (bsl_32_1_0 rfl) E100 ?_
                 clear H; intro g73 w E1
                 have E110 : SH w0 [] w (bR g10 0 none 0 0 :: (bM g73 [I v] :: ((bP g5 P rs.length cp (some ⟨bF, oF, none⟩) left.length cf :: bP g3 P2 rs2.length cp2 F2 left2.length cf2 :: bN g2 m A l.length ca B ts.length cb C ns.length cc hd :: L)))) := E1.perm (List.Perm.swap _ _ _)
                 clear E1 E100
                 have H := E110.drop (L' := (bP g5 P rs.length cp (some ⟨bF, oF, none⟩) left.length cf :: bP g3 P2 rs2.length cp2 F2 left2.length cf2 :: bN g2 m A l.length ca B ts.length cb C ns.length cc hd :: L)) Sb.out)
              | (refine OPS.buildSlice rfl rfl rfl rfl (bsl_32_1_0 rfl) E006 ?_
                 clear H; intro g73 w E1
                 have E016 : SH w0 [] w (bM g73 [I v] :: ((bP g5 P rs.length cp (some ⟨bF, oF, none⟩) left.length cf :: bP g3 P2 rs2.length cp2 F2 left2.length cf2 :: bN g2 m A l.length ca B ts.length cb C ns.length cc hd :: L) ++ Le)) := E1
                 clear E1 E006
                 have H := E016.drop (L' := (bP g5 P rs.length cp (some ⟨bF, oF, none⟩) left.length cf :: bP g3 P2 rs2.length cp2 F2 left2.length cf2 :: bN g2 m A l.length ca B ts.length cb C ns.length cc hd :: L)) Sb.out)
              | (refine OPS.buildSlice rfl rfl rfl rfl (bsl_32_1_0 rfl) E003 ?_
                 clear H; intro g73 w E1
                 have E013 : SH w0 [] w (bM g73 [I v] :: ((bP g5 P rs.length cp (some ⟨bF, oF, none⟩) left.length cf :: bP g3 P2 rs2.length cp2 F2 left2.length cf2 :: bN g2 m A l.length ca B ts.length cb C ns.length cc hd :: L) ++ [⟨g65, 3, []⟩])) := E1
                 clear E1 E003
                 have H := E013.drop (L' := (bP g5 P rs.length cp (some ⟨bF, oF, none⟩) left.length cf :: bP g3 P2 rs2.length cp2 F2 left2.length cf2 :: bN g2 m A l.length ca B ts.length cb C ns.length cc hd :: L)) Sb.out)
              | (refine OPS.buildSlice rfl rfl rfl rfl (bsl_32_1_0 rfl) (E000.toBelow hbw15) ?_
                 clear H; intro g73 w E1
                 have E010 : SH w0 [] w (bM g73 [I v] :: ((bP g5 P rs.length cp (some ⟨bF, oF, none⟩) left.length cf :: bP g3 P2 rs2.length cp2 F2 left2.length cf2 :: bN g2 m A l.length ca B ts.length cb C ns.length cc hd :: L))) := E1
                 clear E1 E000
                 have H := E010.drop (L' := (bP g5 P rs.length cp (some ⟨bF, oF, none⟩) left.length cf :: bP g3 P2 rs2.length cp2 F2 left2.length cf2 :: bN g2 m A l.length ca B ts.length cb C ns.length cc hd :: L)) Sb.out)
              refine Y.z <| ⟨(H), ?_⟩
              refine Y.A1 3 rfl rfl ?_
              first
              | (refine OPS.appendE (m := x.length) (news := x.map I) (R := bR g10 0 none 0 0 :: (bM g73 [I v] :: ((bP g5 P rs.length cp (some ⟨bF, oF, none⟩) left.length cf :: bP g3 P2 rs2.length cp2 F2 left2.length cf2 :: bN g2 m A l.length ca B ts.length cb C ns.length cc hd :: L)))) rfl rfl rfl rfl rfl (sl_run rfl) rfl rfl (OwnS.mt (g := g65)) (by simp) (intsFrom (hXw _ H)) (intsOne x) (by omega) (by unfold maxLen; omega) E113 (List.Perm.refl _) ?_
                 clear H; intro AE ce Le w hOE E1
                 have E116 : SH w0 [] w (bR g10 0 none 0 0 :: (bM g73 [I v] :: ((bP g5 P rs.length cp (some ⟨bF, oF, none⟩) left.length cf :: bP g3 P2 rs2.length cp2 F2 left2.length cf2 :: bN g2 m A l.length ca B ts.length cb C ns.length cc hd :: L) ++ Le))) := E1
                 clear E1 E113
                 rw [Nat.zero_add, List.nil_append] at hOE
                 rw [show 0 + x.length = x.length from Nat.zero_add _]
                 have H := E116.drop (L' := (bP g5 P rs.length cp (some ⟨bF, oF, none⟩) left.length cf :: bP g3 P2 rs2.length cp2 F2 left2.length cf2 :: bN g2 m A l.length ca B ts.length cb C ns.length cc hd :: L)) Sb.out)
              | (refine OPS.appendE (m := x.length) (news := x.map I) (R := bR g10 0 none 0 0 :: ((bP g5 P rs.length cp (some ⟨bF, oF, none⟩) left.length cf :: bP g3 P2 rs2.length cp2 F2 left2.length cf2 :: bN g2 m A l.length ca B ts.length cb C ns.length cc hd :: L))) rfl rfl rfl rfl rfl (sl_run rfl) rfl rfl (OwnS.mt (g := g65)) (by simp) (intsFrom (hXw _ H)) (intsOne x) (by omega) (by unfold maxLen; omega) E103 (List.Perm.refl _) ?_
                 clear H; intro AE ce Le w hOE E1
                 have E106 : SH w0 [] w (bR g10 0 none 0 0 :: ((bP g5 P rs.length cp (some ⟨bF, oF, none⟩) left.length cf :: bP g3 P2 rs2.length cp2 F2 left2.length cf2 :: bN g2 m A l.length ca B ts.length cb C ns.length cc hd :: L) ++ Le)) := E1
                 clear E1 E103
                 rw [Nat.zero_add, List.nil_append] at hOE
                 rw [show 0 + x.length = x.length from Nat.zero_add _]
                 have H := E106.drop (L' := (bP g5 P rs.length cp (some ⟨bF, oF, none⟩) left.length cf :: bP g3 P2 rs2.length cp2 F2 left2.length cf2 :: bN g2 m A l.length ca B ts.length cb C ns.length cc hd :: L)) Sb.out)
              | (refine OPS.appendE (m := x.length) (news := x.map I) (R := bM g73 [I v] :: ((bP g5 P rs.length cp (some ⟨bF, oF, none⟩) left.length cf :: bP g3 P2 rs2.length cp2 F2 left2.length cf2 :: bN g2 m A l.length ca B ts.length cb C ns.length cc hd :: L))) rfl rfl rfl rfl rfl (sl_run rfl) rfl rfl (OwnS.mt (g := g65)) (by simp) (intsFrom (hXw _ H)) (intsOne x) (by omega) (by unfold maxLen; omega) E013 (List.Perm.refl _) ?_
                 clear H; intro AE ce Le w hOE E1
                 have E016 : SH w0 [] w (bM g73 [I v] :: ((bP g5 P rs.length cp (some ⟨bF, oF, none⟩) left.length cf :: bP g3 P2 rs2.length cp2 F2 left2.length cf2 :: bN g2 m A l.length ca B ts.length cb C ns.length cc hd :: L) ++ Le)) := E1
                 clear E1 E013
                 rw [Nat.zero_add, List.nil_append] at hOE
                 rw [show 0 + x.length = x.length from Nat.zero_add _]
                 have H := E016.drop (L' := (bP g5 P rs.length cp (some ⟨bF, oF, none⟩) left.length cf :: bP g3 P2 rs2.length cp2 F2 left2.length cf2 :: bN g2 m A l.length ca B ts.length cb C ns.length cc hd :: L)) Sb.out)
              | (refine OPS.appendE (m := x.length) (news := x.map I) (R := (bP g5 P rs.length cp (some ⟨bF, oF, none⟩) left.length cf :: bP g3 P2 rs2.length cp2 F2 left2.length cf2 :: bN g2 m A l.length ca B ts.length cb C ns.length cc hd :: L)) rfl rfl rfl rfl rfl (sl_run rfl) rfl rfl (OwnS.mt (g := g65)) (by simp) (intsFrom (hXw _ H)) (intsOne x) (by omega) (by unfold maxLen; omega) E003 (List.Perm.refl _) ?_
                 clear H; intro AE ce Le w hOE E1
                 have E006 : SH w0 [] w ((bP g5 P rs.length cp (some ⟨bF, oF, none⟩) left.length cf :: bP g3 P2 rs2.length cp2 F2 left2.length cf2 :: bN g2 m A l.length ca B ts.length cb C ns.length cc hd :: L) ++ Le) := E1
                 clear E1 E003
                 rw [Nat.zero_add, List.nil_append] at hOE
                 rw [show 0 + x.length = x.length from Nat.zero_add _]
                 have H := E006.drop (L' := (bP g5 P rs.length cp (some ⟨bF, oF, none⟩) left.length cf :: bP g3 P2 rs2.length cp2 F2 left2.length cf2 :: bN g2 m A l.length ca B ts.length cb C ns.length cc hd :: L)) Sb.out)
              refine Y.z <| ⟨(H), ?_⟩
              refine Y.A1 10 rfl rfl ?_
              first
              | (refine OPS.append (m := 1) (news := [I v]) (R := bR g10 0 none 0 0 :: (bM g73 [I v] :: ((bP g5 P rs.length cp (some ⟨bF, oF, none⟩) left.length cf :: bP g3 P2 rs2.length cp2 F2 left2.length cf2 :: bN g2 m A l.length ca B ts.length cb C ns.length cc hd :: L)))) rfl rfl rfl rfl rfl (sl_run rfl) rfl rfl hOE rfl (src_own E116 1 rfl) rfl (by omega) (by unfold maxLen; omega) E116 (List.Perm.refl _) ?_
                 clear H hOE; intro AE ce Le w hOE E1
                 rw [show x.map I ++ [I v] = (x ++ [v]).map I by simp] at hOE
                 have E119 : SH w0 [] w (bR g10 0 none 0 0 :: (bM g73 [I v] :: ((bP g5 P rs.length cp (some ⟨bF, oF, none⟩) left.length cf :: bP g3 P2 rs2.length cp2 F2 left2.length cf2 :: bN g2 m A l.length ca B ts.length cb C ns.length cc hd :: L) ++ Le))) := E1
                 clear E1 E116
                 have H := E119.drop (L' := (bP g5 P rs.length cp (some ⟨bF, oF, none⟩) left.length cf :: bP g3 P2 rs2.length cp2 F2 left2.length cf2 :: bN g2 m A l.length ca B ts.length cb C ns.length cc hd :: L)) Sb.out)
              | (refine OPS.append (m := 1) (news := [I v]) (R := bM g73 [I v] :: ((bP g5 P rs.length cp (some ⟨bF, oF, none⟩) left.length cf :: bP g3 P2 rs2.length cp2 F2 left2.length cf2 :: bN g2 m A l.length ca B ts.length cb C ns.length cc hd :: L))) rfl rfl rfl rfl rfl (sl_run rfl) rfl rfl hOE rfl (src_own E016 0 rfl) rfl (by omega) (by unfold maxLen; omega) E016 (List.Perm.refl _) ?_
                 clear H hOE; intro AE ce Le w hOE E1
                 rw [show x.map I ++ [I v] = (x ++ [v]).map I by simp] at hOE
                 have E019 : SH w0 [] w (bM g73 [I v] :: ((bP g5 P rs.length cp (some ⟨bF, oF, none⟩) left.length cf :: bP g3 P2 rs2.length cp2 F2 left2.length cf2 :: bN g2 m A l.length ca B ts.length cb C ns.length cc hd :: L) ++ Le)) := E1
                 clear E1 E016
                 have H := E019.drop (L' := (bP g5 P rs.length cp (some ⟨bF, oF, none⟩) left.length cf :: bP g3 P2 rs2.length cp2 F2 left2.length cf2 :: bN g2 m A l.length ca B ts.length cb C ns.length cc hd :: L)) Sb.out)
              refine Y.z <| ⟨(H), ?_⟩
              refine Y.t 11 H rfl rfl (fun w H => Ev.build (bld_49_0_1 rfl rfl)) <| Y.A1 13 rfl rfl <| Y.st 0 E119 rfl (cA rfl) rfl ?_
              clear H; intro w E1; clear E119
              simp only [List.set_cons_zero, putL] at E1
              have H := E1.drop (L' := (bP g5 P rs.length cp (some ⟨bF, oF, none⟩) left.length cf :: bP g3 P2 rs2.length cp2 F2 left2.length cf2 :: bN g2 m A l.length ca B ts.length cb C ns.length cc hd :: L)) Sb.out
              refine Y.z <| ⟨(H), ?_⟩
              refine Y.dn ?_
              exact ⟨Y.ag, AE, ce, Le, g10, rfl, hOE, E1.drop (List.Sublist.cons_cons _ (List.sublist_cons_self _ _))⟩
        · first
          | (refine OPS.buildSlice rfl rfl rfl rfl (bsl_32_1_0 rfl) E106 ?_
             clear H; intro g73 w E1
             have E116 : SH w0 [] w (bR g10 0 none 0 0 :: (bM g73 [I v] :: ((bP g5 P rs.length cp (some ⟨bF, oF, none⟩) left.length cf :: bP g3 P2 rs2.length cp2 F2 left2.length cf2 :: bN g2 m A l.length ca B ts.length cb C ns.length cc hd :: L) ++ Le))) := E1.perm (List.Perm.swap _ _ _)
             clear E1 E106
             have H := E116.drop (L' := (bP g5 P rs.length cp (some ⟨bF, oF, none⟩) left.length cf :: bP g3 P2 rs2.length cp2 F2 left2.length cf2 :: bN g2 m A l.length ca B ts.length cb C ns.length cc hd :: L)) Sb.out)
          | (refine OPS.buildSlice rfl rfl rfl rfl (bsl_32_1_0 rfl) E103 ?_
             clear H; intro g73 w E1
             have E113 : SH w0 [] w (bR g10 0 none 0 0 :: (bM g73 [I v] :: ((bP g5 P rs.length cp (some ⟨bF, oF, none⟩) left.length cf :: bP g3 P2 rs2.length cp2 F2 left2.length cf2 :: bN g2 m A l.length ca B ts.length cb C ns.length cc hd :: L) ++ [⟨g65, 3, []⟩]))) := E1.perm (List.Perm.swap _ _ _)
             clear E1 E103
             have H := E113.drop (L' := (bP g5 P rs.length cp (some ⟨bF, oF, none⟩) left.length cf :: bP g3 P2 rs2.length cp2 F2 left2.length cf2 :: bN g2 m A l.length ca B ts.length cb C ns.length cc hd :: L)) Sb.out)
          | (refine OPS.buildSlice rfl rfl rfl rfl (bsl_32_1_0 rfl) E100 ?_
             clear H; intro g73 w E1
             have E110 : SH w0 [] w (bR g10 0 none 0 0 :: (bM g73 [I v] :: ((bP g5 P rs.length cp (some ⟨bF, oF, none⟩) left.length cf :: bP g3 P2 rs2.length cp2 F2 left2.length cf2 :: bN g2 m A l.length ca B ts.length cb C ns.length cc hd :: L)))) := E1.perm (List.Perm.swap _ _ _)
             clear E1 E100
             have H := E110.drop (L' := (bP g5 P rs.length cp (some ⟨bF, oF, none⟩) left.length cf :: bP g3 P2 rs2.length cp2 F2 left2.length cf2 :: bN g2 m A l.length ca B ts.length cb C ns.length cc hd :: L)) Sb.out)
          | (refine OPS.buildSlice rfl rfl rfl rfl (bsl_32_1_0 rfl) E006 ?_
             clear H; intro g73 w E1
             have E016 : SH w0 [] w (bM g73 [I v] :: ((bP g5 P rs.length cp (some ⟨bF, oF, none⟩) left.length cf :: bP g3 P2 rs2.length cp2 F2 left2.length cf2 :: bN g2 m A l.length ca B ts.length cb C ns.length cc hd :: L) ++ Le)) := E1
             clear E1 E006
             have H := E016.drop (L' := (bP g5 P rs.length cp (some ⟨bF, oF, none⟩) left.length cf :: bP g3 P2 rs2.length cp2 F2 left2.length cf2 :: bN g2 m A l.length ca B ts.length cb C ns.length cc hd :: L)) Sb.out)
          | (refine OPS.buildSlice rfl rfl rfl rfl (bsl_32_1_0 rfl) E003 ?_
             clear H; intro g73 w E1
             have E013 : SH w0 [] w (bM g73 [I v] :: ((bP g5 P rs.length cp (some ⟨bF, oF, none⟩) left.length cf :: bP g3 P2 rs2.length cp2 F2 left2.length cf2 :: bN g2 m A l.length ca B ts.length cb C ns.length cc hd :: L) ++ [⟨g65, 3, []⟩])) := E1
             clear E1 E003
             have H := E013.drop (L' := (bP g5 P rs.length cp (some ⟨bF, oF, none⟩) left.length cf :: bP g3 P2 rs2.length cp2 F2 left2.length cf2 :: bN g2 m A l.length ca B ts.length cb C ns.length cc hd :: L)) Sb.out)
          | (refine OPS.buildSlice rfl rfl rfl rfl (bsl_32_1_0 rfl) (E000.toBelow hbw15) ?_
             clear H; intro g73 w E1
             have E010 : SH w0 [] w (bM g73 [I v] :: ((bP g5 P rs.length cp (some ⟨bF, oF, none⟩) left.length cf :: bP g3 P2 rs2.length cp2 F2 left2.length cf2 :: bN g2 m A l.length ca B ts.length cb C ns.length cc hd :: L))) := E1
             clear E1 E000
             have H := E010.drop (L' := (bP g5 P rs.length cp (some ⟨bF, oF, none⟩) left.length cf :: bP g3 P2 rs2.length cp2 F2 left2.length cf2 :: bN g2 m A l.length ca B ts.length cb C ns.length cc hd :: L)) Sb.out)
          refine Y.z <| ⟨(H), ?_⟩
          refine Y.A2 1 12 rfl rfl rfl ?_ ?_
          · first
            | (refine OPS.buildSlice rfl rfl rfl rfl (bsl_32_0_ (e := fun _ => .int .i64 0)) E110 ?_
               clear H; intro g65 w E1
               have E113 : SH w0 [] w (bR g10 0 none 0 0 :: (bM g73 [I v] :: ((bP g5 P rs.length cp (some ⟨bF, oF, none⟩) left.length cf :: bP g3 P2 rs2.length cp2 F2 left2.length cf2 :: bN g2 m A l.length ca B ts.length cb C ns.length cc hd :: L) ++ [⟨g65, 3, []⟩]))) := E1.perm (by exact permBy fun f => by simp <;> omega)
               clear E1 E110
               have H := E113.drop (L' := (bP g5 P rs.length cp (some ⟨bF, oF, none⟩) left.length cf :: bP g3 P2 rs2.length cp2 F2 left2.length cf2 :: bN g2 m A l.length ca B ts.length cb C ns.length cc hd :: L)) Sb.out)
            | (refine OPS.buildSlice rfl rfl rfl rfl (bsl_32_0_ (e := fun _ => .int .i64 0)) E100 ?_
               clear H; intro g65 w E1
               have E103 : SH w0 [] w (bR g10 0 none 0 0 :: ((bP g5 P rs.length cp (some ⟨bF, oF, none⟩) left.length cf :: bP g3 P2 rs2.length cp2 F2 left2.length cf2 :: bN g2 m A l.length ca B ts.length cb C ns.length cc hd :: L) ++ [⟨g65, 3, []⟩])) := E1.perm (by exact permBy fun f => by simp <;> omega)
               clear E1 E100
               have H := E103.drop (L' := (bP g5 P rs.length cp (some ⟨bF, oF, none⟩) left.length cf :: bP g3 P2 rs2.length cp2 F2 left2.length cf2 :: bN g2 m A l.length ca B ts.length cb C ns.length cc hd :: L)) Sb.out)
            | (refine OPS.buildSlice rfl rfl rfl rfl (bsl_32_0_ (e := fun _ => .int .i64 0)) E010 ?_
               clear H; intro g65 w E1
               have E013 : SH w0 [] w (bM g73 [I v] :: ((bP g5 P rs.length cp (some ⟨bF, oF, none⟩) left.length cf :: bP g3 P2 rs2.length cp2 F2 left2.length cf2 :: bN g2 m A l.length ca B ts.length cb C ns.length cc hd :: L) ++ [⟨g65, 3, []⟩])) := E1.perm (by exact permBy fun f => by simp <;> omega)
               clear E1 E010
               have H := E013.drop (L' := (bP g5 P rs.length cp (some ⟨bF, oF, none⟩) left.length cf :: bP g3 P2 rs2.length cp2 F2 left2.length cf2 :: bN g2 m A l.length ca B ts.length cb C ns.length cc hd :: L)) Sb.out)
            | (refine OPS.buildSlice rfl rfl rfl rfl (bsl_32_0_ (e := fun _ => .int .i64 0)) (E000.toBelow hbw15) ?_
               clear H; intro g65 w E1
               have E003 : SH w0 [] w ((bP g5 P rs.length cp (some ⟨bF, oF, none⟩) left.length cf :: bP g3 P2 rs2.length cp2 F2 left2.length cf2 :: bN g2 m A l.length ca B ts.length cb C ns.length cc hd :: L) ++ [⟨g65, 3, []⟩]) := E1.perm (by exact permBy fun f => by simp <;> omega)
               clear E1 E000
               have H := E003.drop (L' := (bP g5 P rs.length cp (some ⟨bF, oF, none⟩) left.length cf :: bP g3 P2 rs2.length cp2 F2 left2.length cf2 :: bN g2 m A l.length ca B ts.length cb C ns.length cc hd :: L)) Sb.out)
            refine Y.z <| ⟨(H), ?_⟩
            refine Y.A2 3 12 rfl rfl rfl ?_ ?_
            · first
              | (refine OPS.appendE (m := x.length) (news := x.map I) (R := bR g10 0 none 0 0 :: (bM g73 [I v] :: ((bP g5 P rs.length cp (some ⟨bF, oF, none⟩) left.length cf :: bP g3 P2 rs2.length cp2 F2 left2.length cf2 :: bN g2 m A l.length ca B ts.length cb C ns.length cc hd :: L)))) rfl rfl rfl rfl rfl (sl_run rfl) rfl rfl (OwnS.mt (g := g65)) (by simp) (intsFrom (hXw _ H)) (intsOne x) (by omega) (by unfold maxLen; omega) E113 (List.Perm.refl _) ?_
                 clear H; intro AE ce Le w hOE E1
                 have E116 : SH w0 [] w (bR g10 0 none 0 0 :: (bM g73 [I v] :: ((bP g5 P rs.length cp (some ⟨bF, oF, none⟩) left.length cf :: bP g3 P2 rs2.length cp2 F2 left2.length cf2 :: bN g2 m A l.length ca B ts.length cb C ns.length cc hd :: L) ++ Le))) := E1
                 clear E1 E113
                 rw [Nat.zero_add, List.nil_append] at hOE
                 rw [show 0 + x.length = x.length from Nat.zero_add _]
                 have H := E116.drop (L' := (bP g5 P rs.length cp (some ⟨bF, oF, none⟩) left.length cf :: bP g3 P2 rs2.length cp2 F2 left2.length cf2 :: bN g2 m A l.length ca B ts.length cb C ns.length cc hd :: L)) Sb.out)
              | (refine OPS.appendE (m := x.length) (news := x.map I) (R := bR g10 0 none 0 0 :: ((bP g5 P rs.length cp (some ⟨bF, oF, none⟩) left.length cf :: bP g3 P2 rs2.length cp2 F2 left2.length cf2 :: bN g2 m A l.length ca B ts.length cb C ns.length cc hd :: L))) rfl rfl rfl rfl rfl (sl_run rfl) rfl rfl (OwnS.mt (g := g65)) (by simp) (intsFrom (hXw _ H)) (intsOne x) (by omega) (by unfold maxLen; omega) E103 (List.Perm.refl _) ?_
                 clear H; intro AE ce Le w hOE E1
                 have E106 : SH w0 [] w (bR g10 0 none 0 0 :: ((bP g5 P rs.length cp (some ⟨bF, oF, none⟩) left.length cf :: bP g3 P2 rs2.length cp2 F2 left2.length cf2 :: bN g2 m A l.length ca B ts.length cb C ns.length cc hd :: L) ++ Le)) := E1
                 clear E1 E103
                 rw [Nat.zero_add, List.nil_append] at hOE
                 rw [show 0 + x.length = x.length from Nat.zero_add _]
                 have H := E106.drop (L' := (bP g5 P rs.length cp (some ⟨bF, oF, none⟩) left.length cf :: bP g3 P2 rs2.length cp2 F2 left2.length cf2 :: bN g2 m A l.length ca B ts.length cb C ns.length cc hd :: L)) Sb.out)
              | (refine OPS.appendE (m := x.length) (news := x.map I) (R := bM g73 [I v] :: ((bP g5 P rs.length cp (some ⟨bF, oF, none⟩) left.length cf :: bP g3 P2 rs2.length cp2 F2 left2.length cf2 :: bN g2 m A l.length ca B ts.length cb C ns.length cc hd :: L))) rfl rfl rfl rfl rfl (sl_run rfl) rfl rfl (OwnS.mt (g := g65)) (by simp) (intsFrom (hXw _ H)) (intsOne x) (by omega) (by unfold maxLen; omega) E013 (List.Perm.refl _) ?_
                 clear H; intro AE ce Le w hOE E1
                 have E016 : SH w0 [] w (bM g73 [I v] :: ((bP g5 P rs.length cp (some ⟨bF, oF, none⟩) left.length cf :: bP g3 P2 rs2.length cp2 F2 left2.length cf2 :: bN g2 m A l.length ca B ts.length cb C ns.length cc hd :: L) ++ Le)) := E1
                 clear E1 E013
                 rw [Nat.zero_add, List.nil_append] at hOE
                 rw [show 0 + x.length = x.length from Nat.zero_add _]
                 have H := E016.drop (L' := (bP g5 P rs.length cp (some ⟨bF, oF, none⟩) left.length cf :: bP g3 P2 rs2.length cp2 F2 left2.length cf2 :: bN g2 m A l.length ca B ts.length cb C ns.length cc hd :: L)) Sb.out)
              | (refine OPS.appendE (m := x.length) (news := x.map I) (R := (bP g5 P rs.length cp (some ⟨bF, oF, none⟩) left.length cf :: bP g3 P2 rs2.length cp2 F2 left2.length cf2 :: bN g2 m A l.length ca B ts.length cb C ns.length cc hd :: L)) rfl rfl rfl rfl rfl (sl_run rfl) rfl rfl (OwnS.mt (g := g65)) (by simp) (intsFrom (hXw _ H)) (intsOne x) (by omega) (by unfold maxLen; omega) E003 (List.Perm.refl _) ?_
                 clear H; intro AE ce Le w hOE E1
                 have E006 : SH w0 [] w ((bP g5 P rs.length cp (some ⟨bF, oF, none⟩) left.length cf :: bP g3 P2 rs2.length cp2 F2 left2.length cf2 :: bN g2 m A l.length ca B ts.length cb C ns.length cc hd :: L) ++ Le) := E1
                 clear E1 E003
                 rw [Nat.zero_add, List.nil_append] at hOE
                 rw [show 0 + x.length = x.length from Nat.zero_add _]
                 have H := E006.drop (L' := (bP g5 P rs.length cp (some ⟨bF, oF, none⟩) left.length cf :: bP g3 P2 rs2.length cp2 F2 left2.length cf2 :: bN g2 m A l.length ca B ts.length cb C ns.length cc hd :: L)) Sb.out)
              refine Y.z <| ⟨(H), ?_⟩
              refine Y.A2 10 12 rfl rfl rfl ?_ ?_
              · first
                | (refine OPS.append (m := 1) (news := [I v]) (R := bR g10 0 none 0 0 :: (bM g73 [I v] :: ((bP g5 P rs.length cp (some ⟨bF, oF, none⟩) left.length cf :: bP g3 P2 rs2.length cp2 F2 left2.length cf2 :: bN g2 m A l.length ca B ts.length cb C ns.length cc hd :: L)))) rfl rfl rfl rfl rfl (sl_run rfl) rfl rfl hOE rfl (src_own E116 1 rfl) rfl (by omega) (by unfold maxLen; omega) E116 (List.Perm.refl _) ?_
                   clear H hOE; intro AE ce Le w hOE E1
                   rw [show x.map I ++ [I v] = (x ++ [v]).map I by simp] at hOE
                   have E119 : SH w0 [] w (bR g10 0 none 0 0 :: (bM g73 [I v] :: ((bP g5 P rs.length cp (some ⟨bF, oF, none⟩) left.length cf :: bP g3 P2 rs2.length cp2 F2 left2.length cf2 :: bN g2 m A l.length ca B ts.length cb C ns.length cc hd :: L) ++ Le))) := E1
                   clear E1 E116
                   have H := E119.drop (L' := (bP g5 P rs.length cp (some ⟨bF, oF, none⟩) left.length cf :: bP g3 P2 rs2.length cp2 F2 left2.length cf2 :: bN g2 m A l.length ca B ts.length cb C ns.length cc hd :: L)) Sb.out)
                | (refine OPS.append (m := 1) (news := [I v]) (R := bM g73 [I v] :: ((bP g5 P rs.length cp (some ⟨bF, oF, none⟩) left.length cf :: bP g3 P2 rs2.length cp2 F2 left2.length cf2 :: bN g2 m A l.length ca B ts.length cb C ns.length cc hd :: L))) rfl rfl rfl rfl rfl (sl_run rfl) rfl rfl hOE rfl (src_own E016 0 rfl) rfl (by omega) (by unfold maxLen; omega) E016 (List.Perm.refl _) ?_
                   clear H hOE; intro AE ce Le w hOE E1
                   rw [show x.map I ++ [I v] = (x ++ [v]).map I by simp] at hOE
                   have E019 : SH w0 [] w (bM g73 [I v] :: ((bP g5 P rs.length cp (some ⟨bF, oF, none⟩) left.length cf :: bP g3 P2 rs2.length cp2 F2 left2.length cf2 :: bN g2 m A l.length ca B ts.length cb C ns.length cc hd :: L) ++ Le)) := E1
                   clear E1 E016
                   have H := E019.drop (L' := (bP g5 P rs.length cp (some ⟨bF, oF, none⟩) left.length cf :: bP g3 P2 rs2.length cp2 F2 left2.length cf2 :: bN g2 m A l.length ca B ts.length cb C ns.length cc hd :: L)) Sb.out)
                refine Y.z <| ⟨(H), ?_⟩
                refine Y.t 11 H rfl rfl (fun w H => Ev.build (bld_49_0_1 rfl rfl)) <| Y.A1 12 rfl rfl ?_
                first
                | (refine OPS.alloc rfl rfl rfl rfl (zero_run rfl) rfl E019 ?_
                   clear H; intro g10 w E1
                   have E119 : SH w0 [] w (bR g10 0 none 0 0 :: (bM g73 [I v] :: ((bP g5 P rs.length cp (some ⟨bF, oF, none⟩) left.length cf :: bP g3 P2 rs2.length cp2 F2 left2.length cf2 :: bN g2 m A l.length ca B ts.length cb C ns.length cc hd :: L) ++ Le))) := E1
                   clear E1 E019
                   have H := E119.drop (L' := (bP g5 P rs.length cp (some ⟨bF, oF, none⟩) left.length cf :: bP g3 P2 rs2.length cp2 F2 left2.length cf2 :: bN g2 m A l.length ca B ts.length cb C ns.length cc hd :: L)) Sb.out)
                | (refine OPS.alloc rfl rfl rfl rfl (zero_run rfl) rfl E016 ?_
                   clear H; intro g10 w E1
                   have E116 : SH w0 [] w (bR g10 0 none 0 0 :: (bM g73 [I v] :: ((bP g5 P rs.length cp (some ⟨bF, oF, none⟩) left.length cf :: bP g3 P2 rs2.length cp2 F2 left2.length cf2 :: bN g2 m A l.length ca B ts.length cb C ns.length cc hd :: L) ++ Le))) := E1
                   clear E1 E016
                   have H := E116.drop (L' := (bP g5 P rs.length cp (some ⟨bF, oF, none⟩) left.length cf :: bP g3 P2 rs2.length cp2 F2 left2.length cf2 :: bN g2 m A l.length ca B ts.length cb C ns.length cc hd :: L)) Sb.out)
                | (refine OPS.alloc rfl rfl rfl rfl (zero_run rfl) rfl E006 ?_
                   clear H; intro g10 w E1
                   have E106 : SH w0 [] w (bR g10 0 none 0 0 :: ((bP g5 P rs.length cp (some ⟨bF, oF, none⟩) left.length cf :: bP g3 P2 rs2.length cp2 F2 left2.length cf2 :: bN g2 m A l.length ca B ts.length cb C ns.length cc hd :: L) ++ Le)) := E1
                   clear E1 E006
                   have H := E106.drop (L' := (bP g5 P rs.length cp (some ⟨bF, oF, none⟩) left.length cf :: bP g3 P2 rs2.length cp2 F2 left2.length cf2 :: bN g2 m A l.length ca B ts.length cb C ns.length cc hd :: L)) Sb.out)
                | (refine OPS.alloc rfl rfl rfl rfl (zero_run rfl) rfl E013 ?_
                   clear H; intro g10 w E1
                   have E113 : SH w0 [] w (bR g10 0 none 0 0 :: (bM g73 [I v] :: ((bP g5 P rs.length cp (some ⟨bF, oF, none⟩) left.length cf :: bP g3 P2 rs2.length cp2 F2 left2.length cf2 :: bN g2 m A l.length ca B ts.length cb C ns.length cc hd :: L) ++ [⟨g65, 3, []⟩]))) := E1
                   clear E1 E013
                   have H := E113.drop (L' := (bP g5 P rs.length cp (some ⟨bF, oF, none⟩) left.length cf :: bP g3 P2 rs2.length cp2 F2 left2.length cf2 :: bN g2 m A l.length ca B ts.length cb C ns.length cc hd :: L)) Sb.out)
                | (refine OPS.alloc rfl rfl rfl rfl (zero_run rfl) rfl E003 ?_
                   clear H; intro g10 w E1
                   have E103 : SH w0 [] w (bR g10 0 none 0 0 :: ((bP g5 P rs.length cp (some ⟨bF, oF, none⟩) left.length cf :: bP g3 P2 rs2.length cp2 F2 left2.length cf2 :: bN g2 m A l.length ca B ts.length cb C ns.length cc hd :: L) ++ [⟨g65, 3, []⟩])) := E1
                   clear E1 E003
                   have H := E103.drop (L' := (bP g5 P rs.length cp (some ⟨bF, oF, none⟩) left.length cf :: bP g3 P2 rs2.length cp2 F2 left2.length cf2 :: bN g2 m A l.length ca B ts.length cb C ns.length cc hd :: L)) Sb.out)
                | (refine OPS.alloc rfl rfl rfl rfl (zero_run rfl) rfl E010 ?_
                   clear H; intro g10 w E1
                   have E110 : SH w0 [] w (bR g10 0 none 0 0 :: (bM g73 [I v] :: ((bP g5 P rs.length cp (some ⟨bF, oF, none⟩) left.length cf :: bP g3 P2 rs2.length cp2 F2 left2.length cf2 :: bN g2 m A l.length ca B ts.length cb C ns.length cc hd :: L)))) := E1
                   clear E1 E010
                   have H := E110.drop (L' := (bP g5 P rs.length cp (some ⟨bF, oF, none⟩) left.length cf :: bP g3 P2 rs2.length cp2 F2 left2.length cf2 :: bN g2 m A l.length ca B ts.length cb C ns.length cc hd :: L)) Sb.out)
                | (refine OPS.alloc rfl rfl rfl rfl (zero_run rfl) rfl (E000.toBelow hbw15) ?_
                   clear H; intro g10 w E1
                   have E100 : SH w0 [] w (bR g10 0 none 0 0 :: ((bP g5 P rs.length cp (some ⟨bF, oF, none⟩) left.length cf :: bP g3 P2 rs2.length cp2 F2 left2.length cf2 :: bN g2 m A l.length ca B ts.length cb C ns.length cc hd :: L))) := E1
                   clear E1 E000
                   have H := E100.drop (L' := (bP g5 P rs.length cp (some ⟨bF, oF, none⟩) left.length cf :: bP g3 P2 rs2.length cp2 F2 left2.length cf2 :: bN g2 m A l.length ca B ts.length cb C ns.length cc hd :: L)) Sb.out)
                refine Y.z <| ⟨(H), ?_⟩
                refine Y.A1 13 rfl rfl <| Y.st 0 E119 rfl (cA rfl) rfl ?_
                clear H; intro w E1; clear E119
                simp only [List.set_cons_zero, putL] at E1
                have H := E1.drop (L' := (bP g5 P rs.length cp (some ⟨bF, oF, none⟩) left.length cf :: bP g3 P2 rs2.length cp2 F2 left2.length cf2 :: bN g2 m A l.length ca B ts.length cb C ns.length cc hd :: L)) Sb.out
                refine Y.z <| ⟨(H), ?_⟩
                refine Y.dn ?_
                exact ⟨Y.ag, AE, ce, Le, g10, rfl, hOE, E1.drop (List.Sublist.cons_cons _ (List.sublist_cons_self _ _))⟩
              · first
                | (refine OPS.alloc rfl rfl rfl rfl (zero_run rfl) rfl E019 ?_
                   clear H; intro g10 w E1
                   have E119 : SH w0 [] w (bR g10 0 none 0 0 :: (bM g73 [I v] :: ((bP g5 P rs.length cp (some ⟨bF, oF, none⟩) left.length cf :: bP g3 P2 rs2.length cp2 F2 left2.length cf2 :: bN g2 m A l.length ca B ts.length cb C ns.length cc hd :: L) ++ Le))) := E1
                   clear E1 E019
                   have H := E119.drop (L' := (bP g5 P rs.length cp (some ⟨bF, oF, none⟩) left.length cf :: bP g3 P2 rs2.length cp2 F2 left2.length cf2 :: bN g2 m A l.length ca B ts.length cb C ns.length cc hd :: L)) Sb.out)
                | (refine OPS.alloc rfl rfl rfl rfl (zero_run rfl) rfl E016 ?_
                   clear H; intro g10 w E1
                   have E116 : SH w0 [] w (bR g10 0 none 0 0 :: (bM g73 [I v] :: ((bP g5 P rs.length cp (some ⟨bF, oF, none⟩) left.length cf :: bP g3 P2 rs2.length cp2 F2 left2.length cf2 :: bN g2 m A l.length ca B ts.length cb C ns.length cc hd :: L) ++ Le))) := E1
                   clear E1 E016
                   have H := E116.drop (L' := (bP g5 P rs.length cp (some ⟨bF, oF, none⟩) left.length cf :: bP g3 P2 rs2.length cp2 F2 left2.length cf2 :: bN g2 m A l.length ca B ts.length cb C ns.length cc hd :: L)) Sb.out)
                | (refine OPS.alloc rfl rfl rfl rfl (zero_run rfl) rfl E006 ?_
                   clear H; intro g10 w E1
                   have E106 : SH w0 [] w (bR g10 0 none 0 0 :: ((bP g5 P rs.length cp (some ⟨bF, oF, none⟩) left.length cf :: bP g3 P2 rs2.length cp2 F2 left2.length cf2 :: bN g2 m A l.length ca B ts.length cb C ns.length cc hd :: L) ++ Le)) := E1
                   clear E1 E006
                   have H := E106.drop (L' := (bP g5 P rs.length cp (some ⟨bF, oF, none⟩) left.length cf :: bP g3 P2 rs2.length cp2 F2 left2.length cf2 :: bN g2 m A l.length ca B ts.length cb C ns.length cc hd :: L)) Sb.out)
                | (refine OPS.alloc rfl rfl rfl rfl (zero_run rfl) rfl E013 ?_
                   clear H; intro g10 w E1
                   have E113 : SH w0 [] w (bR g10 0 none 0 0 :: (bM g73 [I v] :: ((bP g5 P rs.length cp (some ⟨bF, oF, none⟩) left.length cf :: bP g3 P2 rs2.length cp2 F2 left2.length cf2 :: bN g2 m A l.length ca B ts.length cb C ns.length cc hd :: L) ++ [⟨g65, 3, []⟩]))) := E1
                   clear E1 E013
                   have H := E113.drop (L' := (bP g5 P rs.length cp (some ⟨bF, oF, none⟩) left.length cf :: bP g3 P2 rs2.length cp2 F2 left2.length cf2 :: bN g2 m A l.length ca B ts.length cb C ns.length cc hd :: L)) Sb.out)
                | (refine OPS.alloc rfl rfl rfl rfl (zero_run rfl) rfl E003 ?_
                   clear H; intro g10 w E1
                   have E103 : SH w0 [] w (bR g10 0 none 0 0 :: ((bP g5 P rs.length cp (some ⟨bF, oF, none⟩) left.length cf :: bP g3 P2 rs2.length cp2 F2 left2.length cf2 :: bN g2 m A l.length ca B ts.length cb C ns.length cc hd :: L) ++ [⟨g65, 3, []⟩])) := E1
                   clear E1 E003
                   have H := E103.drop (L' := (bP g5 P rs.length cp (some ⟨bF, oF, none⟩) left.length cf :: bP g3 P2 rs2.length cp2 F2 left2.length cf2 :: bN g2 m A l.length ca B ts.length cb C ns.length cc hd :: L)) Sb.out)
                | (refine OPS.alloc rfl rfl rfl rfl (zero_run rfl) rfl E010 ?_
                   clear H; intro g10 w E1
                   have E110 : SH w0 [] w (bR g10 0 none 0 0 :: (bM g73 [I v] :: ((bP g5 P rs.length cp (some ⟨bF, oF, none⟩) left.length cf :: bP g3 P2 rs2.length cp2 F2 left2.length cf2 :: bN g2 m A l.length ca B ts.length cb C ns.length cc hd :: L)))) := E1
                   clear E1 E010
                   have H := E110.drop (L' := (bP g5 P rs.length cp (some ⟨bF, oF, none⟩) left.length cf :: bP g3 P2 rs2.length cp2 F2 left2.length cf2 :: bN g2 m A l.length ca B ts.length cb C ns.length cc hd :: L)) Sb.out)
                | (refine OPS.alloc rfl rfl rfl rfl (zero_run rfl) rfl (E000.toBelow hbw15) ?_
                   clear H; intro g10 w E1
                   have E100 : SH w0 [] w (bR g10 0 none 0 0 :: ((bP g5 P rs.length cp (some ⟨bF, oF, none⟩) left.length cf :: bP g3 P2 rs2.length cp2 F2 left2.length cf2 :: bN g2 m A l.length ca B ts.length cb C ns.length cc hd :: L))) := E1
                   clear E1 E000
                   have H := E100.drop (L' := (bP g5 P rs.length cp (some ⟨bF, oF, none⟩) left.length cf :: bP g3 P2 rs2.length cp2 F2 left2.length cf2 :: bN g2 m A l.length ca B ts.length cb C ns.length cc hd :: L)) Sb.out)
                refine Y.z <| ⟨(H), ?_⟩
                refine Y.A1 10 rfl rfl ?_
                first
                | (refine OPS.append (m := 1) (news := [I v]) (R := bR g10 0 none 0 0 :: (bM g73 [I v] :: ((bP g5 P rs.length cp (some ⟨bF, oF, none⟩) left.length cf :: bP g3 P2 rs2.length cp2 F2 left2.length cf2 :: bN g2 m A l.length ca B ts.length cb C ns.length cc hd :: L)))) rfl rfl rfl rfl rfl (sl_run rfl) rfl rfl hOE rfl (src_own E116 1 rfl) rfl (by omega) (by unfold maxLen; omega) E116 (List.Perm.refl _) ?_
                   clear H hOE; intro AE ce Le w hOE E1
                   rw [show x.map I ++ [I v] = (x ++ [v]).map I by simp] at hOE
                   have E119 : SH w0 [] w (bR g10 0 none 0 0 :: (bM g73 [I v] :: ((bP g5 P rs.length cp (some ⟨bF, oF, none⟩) left.length cf :: bP g3 P2 rs2.length cp2 F2 left2.length cf2 :: bN g2 m A l.length ca B ts.length cb C ns.length cc hd :: L) ++ Le))) := E1
                   clear E1 E116
                   have H := E119.drop (L' := (bP g5 P rs.length cp (some ⟨bF, oF, none⟩) left.length cf :: bP g3 P2 rs2.length cp2 F2 left2.length cf2 :: bN g2 m A l.length ca B ts.length cb C ns.length cc hd :: L)) Sb.out)
                | (refine OPS.append (m := 1) (news := [I v]) (R := bM g73 [I v] :: ((bP g5 P rs.length cp (some ⟨bF, oF, none⟩) left.length cf :: bP g3 P2 rs2.length cp2 F2 left2.length cf2 :: bN g2 m A l.length ca B ts.length cb C ns.length cc hd :: L))) rfl rfl rfl rfl rfl (sl_run rfl) rfl rfl hOE rfl (src_own E016 0 rfl) rfl (by omega) (by unfold maxLen; omega) E016 (List.Perm.refl _) ?_
                   clear H hOE; intro AE ce Le w hOE E1
                   rw [show x.map I ++ [I v] = (x ++ [v]).map I by simp] at hOE
                   have E019 : SH w0 [] w (bM g73 [I v] :: ((bP g5 P rs.length cp (some ⟨bF, oF, none⟩) left.length cf :: bP g3 P2 rs2.length cp2 F2 left2.length cf2 :: bN g2 m A l.length ca B ts.length cb C ns.length cc hd :: L) ++ Le)) := E1
                   clear E1 E016
                   have H := E019.drop (L' := (bP g5 P rs.length cp (some ⟨bF, oF, none⟩) left.length cf :: bP g3 P2 rs2.length cp2 F2 left2.length cf2 :: bN g2 m A l.length ca B ts.length cb C ns.length cc hd :: L)) Sb.out)
                refine Y.z <| ⟨(H), ?_⟩
                refine Y.t 11 H rfl rfl (fun w H => Ev.build (bld_49_0_1 rfl rfl)) <| Y.A1 13 rfl rfl <| Y.st 0 E119 rfl (cA rfl) rfl ?_
                clear H; intro w E1; clear E119
                simp only [List.set_cons_zero, putL] at E1
                have H := E1.drop (L' := (bP g5 P rs.length cp (some ⟨bF, oF, none⟩) left.length cf :: bP g3 P2 rs2.length cp2 F2 left2.length cf2 :: bN g2 m A l.length ca B ts.length cb C ns.length cc hd :: L)) Sb.out
                refine Y.z <| ⟨(H), ?_⟩
                refine Y.dn ?_
                exact ⟨Y.ag, AE, ce, Le, g10, rfl, hOE, E1.drop (List.Sublist.cons_cons _ (List.sublist_cons_self _ _))⟩
            · first
              | (refine OPS.alloc rfl rfl rfl rfl (zero_run rfl) rfl E019 ?_
                 clear H; intro g10 w E1
                 have E119 : SH w0 [] w (bR g10 0 none 0 0 :: (bM g73 [I v] :: ((bP g5 P rs.length cp (some ⟨bF, oF, none⟩) left.length cf :: bP g3 P2 rs2.length cp2 F2 left2.length cf2 :: bN g2 m A l.length ca B ts.length cb C ns.length cc hd :: L) ++ Le))) := E1
                 clear E1 E019
                 have H := E119.drop (L' := (bP g5 P rs.length cp (some ⟨bF, oF, none⟩) left.length cf :: bP g3 P2 rs2.length cp2 F2 left2.length cf2 :: bN g2 m A l.length ca B ts.length cb C ns.length cc hd :: L)) Sb.out)
              | (refine OPS.alloc rfl rfl rfl rfl (zero_run rfl) rfl E016 ?_
                 clear H; intro g10 w E1
                 have E116 : SH w0 [] w (bR g10 0 none 0 0 :: (bM g73 [I v] :: ((bP g5 P rs.length cp (some ⟨bF, oF, none⟩) left.length cf :: bP g3 P2 rs2.length cp2 F2 left2.length cf2 :: bN g2 m A l.length ca B ts.length cb C ns.length cc hd :: L) ++ Le))) := E1
                 clear E1 E016
                 have H := E116.drop (L' := (bP g5 P rs.length cp (some ⟨bF, oF, none⟩) left.length cf :: bP g3 P2 rs2.length cp2 F2 left2.length cf2 :: bN g2 m A l.length ca B ts.length cb C ns.length cc hd :: L)) Sb.out)
              | (refine OPS.alloc rfl rfl rfl rfl (zero_run rfl) rfl E006 ?_
                 clear H; intro g10 w E1
                 have E106 : SH w0 [] w (bR g10 0 none 0 0 :: ((bP g5 P rs.length cp (some ⟨bF, oF, none⟩) left.length cf :: bP g3 P2 rs2.length cp2 F2 left2.length cf2 :: bN g2 m A l.length ca B ts.length cb C ns.length cc hd :: L) ++ Le)) := E1
                 clear E1 E006
                 have H := E106.drop (L' := (bP g5 P rs.length cp (some ⟨bF, oF, none⟩) left.length cf :: bP g3 P2 rs2.length cp2 F2 left2.length cf2 :: bN g2 m A l.length ca B ts.length cb C ns.length cc hd :: L)) Sb.out)
              | (refine OPS.alloc rfl rfl rfl rfl (zero_run rfl) rfl E013 ?_
                 clear H; intro g10 w E1
                 have E113 : SH w0 [] w (bR g10 0 none 0 0 :: (bM g73 [I v] :: ((bP g5 P rs.length cp (some ⟨bF, oF, none⟩) left.length cf :: bP g3 P2 rs2.length cp2 F2 left2.length cf2 :: bN g2 m A l.length ca B ts.length cb C ns.length cc hd :: L) ++ [⟨g65, 3, []⟩]))) := E1
                 clear E1 E013
                 have H := E113.drop (L' := (bP g5 P rs.length cp (some ⟨bF, oF, none⟩) left.length cf :: bP g3 P2 rs2.length cp2 F2 left2.length cf2 :: bN g2 m A l.length ca B ts.length cb C ns.length cc hd :: L)) Sb.out)
              | (refine OPS.alloc rfl rfl rfl rfl (zero_run rfl) rfl E003 ?_
                 clear H; intro g10 w E1
                 have E103 : SH w0 [] w (bR g10 0 none 0 0 :: ((bP g5 P rs.length cp (some ⟨bF, oF, none⟩) left.length cf :: bP g3 P2 rs2.length cp2 F2 left2.length cf2 :: bN g2 m A l.length ca B ts.length cb C ns.length cc hd :: L) ++ [⟨g65, 3, []⟩])) := E1
                 clear E1 E003
                 have H := E103.drop (L' := (bP g5 P rs.length cp (some ⟨bF, oF, none⟩) left.length cf :: bP g3 P2 rs2.length cp2 F2 left2.length cf2 :: bN g2 m A l.length ca B ts.length cb C ns.length cc hd :: L)) Sb.out)
              | (refine OPS.alloc rfl rfl rfl rfl (zero_run rfl) rfl E010 ?_
                 clear H; intro g10 w E1
                 have E110 : SH w0 [] w (bR g10 0 none 0 0 :: (bM g73 [I v] :: ((bP g5 P rs.length cp (some ⟨bF, oF, none⟩) left.length cf :: bP g3 P2 rs2.length cp2 F2 left2.length cf2 :: bN g2 m A l.length ca B ts.length cb C ns.length cc hd :: L)))) := E1
                 clear E1 E010
                 have H := E110.drop (L' := (bP g5 P rs.length cp (some ⟨bF, oF, none⟩) left.length cf :: bP g3 P2 rs2.length cp2 F2 left2.length cf2 :: bN g2 m A l.length ca B ts.length cb C ns.length cc hd :: L)) Sb.out)
              | (refine OPS.alloc rfl rfl rfl rfl (zero_run rfl) rfl (E000.toBelow hbw15) ?_
                 clear H; intro g10 w E1
                 have E100 : SH w0 [] w (bR g10 0 none 0 0 :: ((bP g5 P rs.length cp (some ⟨bF, oF, none⟩) left.length cf :: bP g3 P2 rs2.length cp2 F2 left2.length cf2 :: bN g2 m A l.length ca B ts.length cb C ns.length cc hd :: L))) := E1
                 clear E1 E000
                 have H := E100.drop (L' := (bP g5 P rs.length cp (some ⟨bF, oF, none⟩) left.length cf :: bP g3 P2 rs2.length cp2 F2 left2.length cf2 :: bN g2 m A l.length ca B ts.length cb C ns.length cc hd :: L)) Sb.out)
              refine Y.z <| ⟨(H), ?_⟩
              refine Y.A1 3 rfl rfl ?_
              first
              | (refine OPS.appendE (m := x.length) (news := x.map I) (R := bR g10 0 none 0 0 :: (bM g73 [I v] :: ((bP g5 P rs.length cp (some ⟨bF, oF, none⟩) left.length cf :: bP g3 P2 rs2.length cp2 F2 left2.length cf2 :: bN g2 m A l.length ca B ts.length cb C ns.length cc hd :: L)))) rfl rfl rfl rfl rfl (sl_run rfl) rfl rfl (OwnS.mt (g := g65)) (by simp) (intsFrom (hXw _ H)) (intsOne x) (by omega) (by unfold maxLen; omega) E113 (List.Perm.refl _) ?_
                 clear H; intro AE ce Le w hOE E1
                 have E116 : SH w0 [] w (bR g10 0 none 0 0 :: (bM g73 [I v] :: ((bP g5 P rs.length cp (some ⟨bF, oF, none⟩) left.length cf :: bP g3 P2 rs2.length cp2 F2 left2.length cf2 :: bN g2 m A l.length ca B ts.length cb C ns.length cc hd :: L) ++ Le))) := E1
                 clear E1 E113
                 rw [Nat.zero_add, List.nil_append] at hOE
                 rw [show 0 + x.length = x.length from Nat.zero_add _]
                 have H := E116.drop (L' := (bP g5 P rs.length cp (some ⟨bF, oF, none⟩) left.length cf :: bP g3 P2 rs2.length cp2 F2 left2.length cf2 :: bN g2 m A l.length ca B ts.length cb C ns.length cc hd :: L)) Sb.out)
              | (refine OPS.appendE (m := x.length) (news := x.map I) (R := bR g10 0 none 0 0 :: ((bP g5 P rs.length cp (some ⟨bF, oF, none⟩) left.length cf :: bP g3 P2 rs2.length cp2 F2 left2.length cf2 :: bN g2 m A l.length ca B ts.length cb C ns.length cc hd :: L))) rfl rfl rfl rfl rfl (sl_run rfl) rfl rfl (OwnS.mt (g := g65)) (by simp) (intsFrom (hXw _ H)) (intsOne x) (by omega) (by unfold maxLen; omega) E103 (List.Perm.refl _) ?_
                 clear H; intro AE ce Le w hOE E1
                 have E106 : SH w0 [] w (bR g10 0 none 0 0 :: ((bP g5 P rs.length cp (some ⟨bF, oF, none⟩) left.length cf :: bP g3 P2 rs2.length cp2 F2 left2.length cf2 :: bN g2 m A l.length ca B ts.length cb C ns.length cc hd :: L) ++ Le)) := E1
                 clear E1 E103
                 rw [Nat.zero_add, List.nil_append] at hOE
                 rw [show 0 + x.length = x.length from Nat.zero_add _]
                 have H := E106.drop (L' := (bP g5 P rs.length cp (some ⟨bF, oF, none⟩) left.length cf :: bP g3 P2 rs2.length cp2 F2 left2.length cf2 :: bN g2 m A l.length ca B ts.length cb C ns.length cc hd :: L)) Sb.out)
              | (refine OPS.appendE (m := x.length) (news := x.map I) (R := bM g73 [I v] :: ((bP g5 P rs.length cp (some ⟨bF, oF, none⟩) left.length cf :: bP g3 P2 rs2.length cp2 F2 left2.length cf2 :: bN g2 m A l.length ca B ts.length cb C ns.length cc hd :: L))) rfl rfl rfl rfl rfl (sl_run rfl) rfl rfl (OwnS.mt (g := g65)) (by simp) (intsFrom (hXw _ H)) (intsOne x) (by omega) (by unfold maxLen; omega) E013 (List.Perm.refl _) ?_
                 clear H; intro AE ce Le w hOE E1
                 have E016 : SH w0 [] w (bM g73 [I v] :: ((bP g5 P rs.length cp (some ⟨bF, oF, none⟩) left.length cf :: bP g3 P2 rs2.length cp2 F2 left2.length cf2 :: bN g2 m A l.length ca B ts.length cb C ns.length cc hd :: L) ++ Le)) := E1
                 clear E1 E013
                 rw [Nat.zero_add, List.nil_append] at hOE
                 rw [show 0 + x.length = x.length from Nat.zero_add _]
                 have H := E016.drop (L' := (bP g5 P rs.length cp (some ⟨bF, oF, none⟩) left.length cf :: bP g3 P2 rs2.length cp2 F2 left2.length cf2 :: bN g2 m A l.length ca B ts.length cb C ns.length cc hd :: L)) Sb.out)
              | (refine OPS.appendE (m := x.length) (news := x.map I) (R := (bP g5 P rs.length cp (some ⟨bF, oF, none⟩) left.length cf :: bP g3 P2 rs2.length cp2 F2 left2.length cf2 :: bN g2 m A l.length ca B ts.length cb C ns.length cc hd :: L)) rfl rfl rfl rfl rfl (sl_run rfl) rfl rfl (OwnS.mt (g := g65)) (by simp) (intsFrom (hXw _ H)) (intsOne x) (by omega) (by unfold maxLen; omega) E003 (List.Perm.refl _) ?_
                 clear H; intro AE ce Le w hOE E1
                 have E006 : SH w0 [] w ((bP g5 P rs.length cp (some ⟨bF, oF, none⟩) left.length cf :: bP g3 P2 rs2.length cp2 F2 left2.length cf2 :: bN g2 m A l.length ca B ts.length cb C ns.length cc hd :: L) ++ Le) := E1
                 clear E1 E003
                 rw [Nat.zero_add, List.nil_append] at hOE
                 rw [show 0 + x.length = x.length from Nat.zero_add _]
                 have H := E006.drop (L' := (bP g5 P rs.length cp (some ⟨bF, oF, none⟩) left.length cf :: bP g3 P2 rs2.length cp2 F2 left2.length cf2 :: bN g2 m A l.length ca B ts.length cb C ns.length cc hd :: L)) Sb.out)
              refine Y.z <| ⟨(H), ?_⟩
              refine Y.A1 10 rfl rfl ?_
              first
              | (refine OPS.append (m := 1) (news := [I v]) (R := bR g10 0 none 0 0 :: (bM g73 [I v] :: ((bP g5 P rs.length cp (some ⟨bF, oF, none⟩) left.length cf :: bP g3 P2 rs2.length cp2 F2 left2.length cf2 :: bN g2 m A l.length ca B ts.length cb C ns.length cc hd :: L)))) rfl rfl rfl rfl rfl (sl_run rfl) rfl rfl hOE rfl (src_own E116 1 rfl) rfl (by omega) (by unfold maxLen; omega) E116 (List.Perm.refl _) ?_
                 clear H hOE; intro AE ce Le w hOE E1
                 rw [show x.map I ++ [I v] = (x ++ [v]).map I by simp] at hOE
                 have E119 : SH w0 [] w (bR g10 0 none 0 0 :: (bM g73 [I v] :: ((bP g5 P rs.length cp (some ⟨bF, oF, none⟩) left.length cf :: bP g3 P2 rs2.length cp2 F2 left2.length cf2 :: bN g2 m A l.length ca B ts.length cb C ns.length cc hd :: L) ++ Le))) := E1
                 clear E1 E116
                 have H := E119.drop (L' := (bP g5 P rs.length cp (some ⟨bF, oF, none⟩) left.length cf :: bP g3 P2 rs2.length cp2 F2 left2.length cf2 :: bN g2 m A l.length ca B ts.length cb C ns.length cc hd :: L)) Sb.out)
              | (refine OPS.append (m := 1) (news := [I v]) (R := bM g73 [I v] :: ((bP g5 P rs.length cp (some ⟨bF, oF, none⟩) left.length cf :: bP g3 P2 rs2.length cp2 F2 left2.length cf2 :: bN g2 m A l.length ca B ts.length cb C ns.length cc hd :: L))) rfl rfl rfl rfl rfl (sl_run rfl) rfl rfl hOE rfl (src_own E016 0 rfl) rfl (by omega) (by unfold maxLen; omega) E016 (List.Perm.refl _) ?_
                 clear H hOE; intro AE ce Le w hOE E1
                 rw [show x.map I ++ [I v] = (x ++ [v]).map I by simp] at hOE
                 have E019 : SH w0 [] w (bM g73 [I v] :: ((bP g5 P rs.length cp (some ⟨bF, oF, none⟩) left.length cf :: bP g3 P2 rs2.length cp2 F2 left2.length cf2 :: bN g2 m A l.length ca B ts.length cb C ns.length cc hd :: L) ++ Le)) := E1
                 clear E1 E016
                 have H := E019.drop (L' := (bP g5 P rs.length cp (some ⟨bF, oF, none⟩) left.length cf :: bP g3 P2 rs2.length cp2 F2 left2.length cf2 :: bN g2 m A l.length ca B ts.length cb C ns.length cc hd :: L)) Sb.out)
              refine Y.z <| ⟨(H), ?_⟩
              refine Y.t 11 H rfl rfl (fun w H => Ev.build (bld_49_0_1 rfl rfl)) <| Y.A1 13 rfl rfl <| Y.st 0 E119 rfl (cA rfl) rfl ?_
              clear H; intro w E1; clear E119
              simp only [List.set_cons_zero, putL] at E1
              have H := E1.drop (L' := (bP g5 P rs.length cp (some ⟨bF, oF, none⟩) left.length cf :: bP g3 P2 rs2.length cp2 F2 left2.length cf2 :: bN g2 m A l.length ca B ts.length cb C ns.length cc hd :: L)) Sb.out
              refine Y.z <| ⟨(H), ?_⟩
              refine Y.dn ?_
              exact ⟨Y.ag, AE, ce, Le, g10, rfl, hOE, E1.drop (List.Sublist.cons_cons _ (List.sublist_cons_self _ _))⟩
          · first
            | (refine OPS.alloc rfl rfl rfl rfl (zero_run rfl) rfl E019 ?_
               clear H; intro g10 w E1
               have E119 : SH w0 [] w (bR g10 0 none 0 0 :: (bM g73 [I v] :: ((bP g5 P rs.length cp (some ⟨bF, oF, none⟩) left.length cf :: bP g3 P2 rs2.length cp2 F2 left2.length cf2 :: bN g2 m A l.length ca B ts.length cb C ns.length cc hd :: L) ++ Le))) := E1
               clear E1 E019
               have H := E119.drop (L' := (bP g5 P rs.length cp (some ⟨bF, oF, none⟩) left.length cf :: bP g3 P2 rs2.length cp2 F2 left2.length cf2 :: bN g2 m A l.length ca B ts.length cb C ns.length cc hd :: L)) Sb.out)
            | (refine OPS.alloc rfl rfl rfl rfl (zero_run rfl) rfl E016 ?_
               clear H; intro g10 w E1
               have E116 : SH w0 [] w (bR g10 0 none 0 0 :: (bM g73 [I v] :: ((bP g5 P rs.length cp (some ⟨bF, oF, none⟩) left.length cf :: bP g3 P2 rs2.length cp2 F2 left2.length cf2 :: bN g2 m A l.length ca B ts.length cb C ns.length cc hd :: L) ++ Le))) := E1
               clear E1 E016
               have H := E116.drop (L' := (bP g5 P rs.length cp (some ⟨bF, oF, none⟩) left.length cf :: bP g3 P2 rs2.length cp2 F2 left2.length cf2 :: bN g2 m A l.length ca B ts.length cb C ns.length cc hd :: L)) Sb.out)
            | (refine OPS.alloc rfl rfl rfl rfl (zero_run rfl) rfl E006 ?_
               clear H; intro g10 w E1
               have E106 : SH w0 [] w (bR g10 0 none 0 0 :: ((bP g5 P rs.length cp (some ⟨bF, oF, none⟩) left.length cf :: bP g3 P2 rs2.length cp2 F2 left2.length cf2 :: bN g2 m A l.length ca B ts.length cb C ns.length cc hd :: L) ++ Le)) := E1
               clear E1 E006
               have H := E106.drop (L' := (bP g5 P rs.length cp (some ⟨bF, oF, none⟩) left.length cf :: bP g3 P2 rs2.length cp2 F2 left2.length cf2 :: bN g2 m A l.length ca B ts.length cb C ns.length cc hd :: L)) Sb.out)
            | (refine OPS.alloc rfl rfl rfl rfl (zero_run rfl) rfl E013 ?_
               clear H; intro g10 w E1
               have E113 : SH w0 [] w (bR g10 0 none 0 0 :: (bM g73 [I v] :: ((bP g5 P rs.length cp (some ⟨bF, oF, none⟩) left.length cf :: bP g3 P2 rs2.length cp2 F2 left2.length cf2 :: bN g2 m A l.length ca B ts.length cb C ns.length cc hd :: L) ++ [⟨g65, 3, []⟩]))) := E1
               clear E1 E013
               have H := E113.drop (L' := (bP g5 P rs.length cp (some ⟨bF, oF, none⟩) left.length cf :: bP g3 P2 rs2.length cp2 F2 left2.length cf2 :: bN g2 m A l.length ca B ts.length cb C ns.length cc hd :: L)) Sb.out)
            | (refine OPS.alloc rfl rfl rfl rfl (zero_run rfl) rfl E003 ?_
               clear H; intro g10 w E1
               have E103 : SH w0 [] w (bR g10 0 none 0 0 :: ((bP g5 P rs.length cp (some ⟨bF, oF, none⟩) left.length cf :: bP g3 P2 rs2.length cp2 F2 left2.length cf2 :: bN g2 m A l.length ca B ts.length cb C ns.length cc hd :: L) ++ [⟨g65, 3, []⟩])) := E1
               clear E1 E003
               have H := E103.drop (L' := (bP g5 P rs.length cp (some ⟨bF, oF, none⟩) left.length cf :: bP g3 P2 rs2.length cp2 F2 left2.length cf2 :: bN g2 m A l.length ca B ts.length cb C ns.length cc hd :: L)) Sb.out)
            | (refine OPS.alloc rfl rfl rfl rfl (zero_run rfl) rfl E010 ?_
               clear H; intro g10 w E1
               have E110 : SH w0 [] w (bR g10 0 none 0 0 :: (bM g73 [I v] :: ((bP g5 P rs.length cp (some ⟨bF, oF, none⟩) left.length cf :: bP g3 P2 rs2.length cp2 F2 left2.length cf2 :: bN g2 m A l.length ca B ts.length cb C ns.length cc hd :: L)))) := E1
               clear E1 E010
               have H := E110.drop (L' := (bP g5 P rs.length cp (some ⟨bF, oF, none⟩) left.length cf :: bP g3 P2 rs2.length cp2 F2 left2.length cf2 :: bN g2 m A l.length ca B ts.length cb C ns.length cc hd :: L)) Sb.out)
            | (refine OPS.alloc rfl rfl rfl rfl (zero_run rfl) rfl (E000.toBelow hbw15) ?_
               clear H; intro g10 w E1
               have E100 : SH w0 [] w (bR g10 0 none 0 0 :: ((bP g5 P rs.length cp (some ⟨bF, oF, none⟩) left.length cf :: bP g3 P2 rs2.length cp2 F2 left2.length cf2 :: bN g2 m A l.length ca B ts.length cb C ns.length cc hd :: L))) := E1
               clear E1 E000
               have H := E100.drop (L' := (bP g5 P rs.length cp (some ⟨bF, oF, none⟩) left.length cf :: bP g3 P2 rs2.length cp2 F2 left2.length cf2 :: bN g2 m A l.length ca B ts.length cb C ns.length cc hd :: L)) Sb.out)
            refine Y.z <| ⟨(H), ?_⟩
            refine Y.A1 1 rfl rfl ?_
            first
            | (refine OPS.buildSlice rfl rfl rfl rfl (bsl_32_0_ (e := fun _ => .int .i64 0)) E110 ?_
               clear H; intro g65 w E1
               have E113 : SH w0 [] w (bR g10 0 none 0 0 :: (bM g73 [I v] :: ((bP g5 P rs.length cp (some ⟨bF, oF, none⟩) left.length cf :: bP g3 P2 rs2.length cp2 F2 left2.length cf2 :: bN g2 m A l.length ca B ts.length cb C ns.length cc hd :: L) ++ [⟨g65, 3, []⟩]))) := E1.perm (by exact permBy fun f => by simp <;> omega)
               clear E1 E110
               have H := E113.drop (L' := (bP g5 P rs.length cp (some ⟨bF, oF, none⟩) left.length cf :: bP g3 P2 rs2.length cp2 F2 left2.length cf2 :: bN g2 m A l.length ca B ts.length cb C ns.length cc hd :: L)) Sb.out)
            | (refine OPS.buildSlice rfl rfl rfl rfl (bsl_32_0_ (e := fun _ => .int .i64 0)) E100 ?_
               clear H; intro g65 w E1
               have E103 : SH w0 [] w (bR g10 0 none 0 0 :: ((bP g5 P rs.length cp (some ⟨bF, oF, none⟩) left.length cf :: bP g3 P2 rs2.length cp2 F2 left2.length cf2 :: bN g2 m A l.length ca B ts.length cb C ns.length cc hd :: L) ++ [⟨g65, 3, []⟩])) := E1.perm (by exact permBy fun f => by simp <;> omega)
               clear E1 E100
               have H := E103.drop (L' := (bP g5 P rs.length cp (some ⟨bF, oF, none⟩) left.length cf :: bP g3 P2 rs2.length cp2 F2 left2.length cf2 :: bN g2 m A l.length ca B ts.length cb C ns.length cc hd :: L)) Sb.out)
            | (refine OPS.buildSlice rfl rfl rfl rfl (bsl_32_0_ (e := fun _ => .int .i64 0)) E010 ?_
               clear H; intro g65 w E1
               have E013 : SH w0 [] w (bM g73 [I v] :: ((bP g5 P rs.length cp (some ⟨bF, oF, none⟩) left.length cf :: bP g3 P2 rs2.length cp2 F2 left2.length cf2 :: bN g2 m A l.length ca B ts.length cb C ns.length cc hd :: L) ++ [⟨g65, 3, []⟩])) := E1.perm (by exact permBy fun f => by simp <;> omega)
               clear E1 E010
               have H := E013.drop (L' := (bP g5 P rs.length cp (some ⟨bF, oF, none⟩) left.length cf :: bP g3 P2 rs2.length cp2 F2 left2.length cf2 :: bN g2 m A l.length ca B ts.length cb C ns.length cc hd :: L)) Sb.out)
            | (refine OPS.buildSlice rfl rfl rfl rfl (bsl_32_0_ (e := fun _ => .int .i64 0)) (E000.toBelow hbw15) ?_
               clear H; intro g65 w E1
               have E003 : SH w0 [] w ((bP g5 P rs.length cp (some ⟨bF, oF, none⟩) left.length cf :: bP g3 P2 rs2.length cp2 F2 left2.length cf2 :: bN g2 m A l.length ca B ts.length cb C ns.length cc hd :: L) ++ [⟨g65, 3, []⟩]) := E1.perm (by exact permBy fun f => by simp <;> omega)
               clear E1 E000
               have H := E003.drop (L' := (bP g5 P rs.length cp (some ⟨bF, oF, none⟩) left.length cf :: bP g3 P2 rs2.length cp2 F2 left2.length cf2 :: bN g2 m A l.length ca B ts.length cb C ns.length cc hd :: L)) Sb.out)
            refine Y.z <| ⟨(H), ?_⟩
            refine Y.A1 3 rfl rfl ?_
            first
            | (refine OPS.appendE (m := x.length) (news := x.map I) (R := bR g10 0 none 0 0 :: (bM g73 [I v] :: ((bP g5 P rs.length cp (some ⟨bF, oF, none⟩) left.length cf :: bP g3 P2 rs2.length cp2 F2 left2.length cf2 :: bN g2 m A l.length ca B ts.length cb C ns.length cc hd :: L)))) rfl rfl rfl rfl rfl (sl_run rfl) rfl rfl (OwnS.mt (g := g65)) (by simp) (intsFrom (hXw _ H)) (intsOne x) (by omega) (by unfold maxLen; omega) E113 (List.Perm.refl _) ?_
               clear H; intro AE ce Le w hOE E1
               have E116 : SH w0 [] w (bR g10 0 none 0 0 :: (bM g73 [I v] :: ((bP g5 P rs.length cp (some ⟨bF, oF, none⟩) left.length cf :: bP g3 P2 rs2.length cp2 F2 left2.length cf2 :: bN g2 m A l.length ca B ts.length cb C ns.length cc hd :: L) ++ Le))) := E1
               clear E1 E113
               rw [Nat.zero_add, List.nil_append] at hOE
               rw [show 0 + x.length = x.length from Nat.zero_add _]
               have H := E116.drop (L' := (bP g5 P rs.length cp (some ⟨bF, oF, none⟩) left.length cf :: bP g3 P2 rs2.length cp2 F2 left2.length cf2 :: bN g2 m A l.length ca B ts.length cb C ns.length cc hd :: L)) Sb.out)
            | (refine OPS.appendE (m := x.length) (news := x.map I) (R := bR g10 0 none 0 0 :: ((bP g5 P rs.length cp (some ⟨bF, oF, none⟩) left.length cf :: bP g3 P2 rs2.length cp2 F2 left2.length cf2 :: bN g2 m A l.length ca B ts.length cb C ns.length cc hd :: L))) rfl rfl rfl rfl rfl (sl_run rfl) rfl rfl (OwnS.mt (g := g65)) (by simp) (intsFrom (hXw _ H)) (intsOne x) (by omega) (by unfold maxLen; omega) E103 (List.Perm.refl _) ?_
               clear H; intro AE ce Le w hOE E1
               have E106 : SH w0 [] w (bR g10 0 none 0 0 :: ((bP g5 P rs.length cp (some ⟨bF, oF, none⟩) left.length cf :: bP g3 P2 rs2.length cp2 F2 left2.length cf2 :: bN g2 m A l.length ca B ts.length cb C ns.length cc hd :: L) ++ Le)) := E1
               clear E1 E103
               rw [Nat.zero_add, List.nil_append] at hOE
               rw [show 0 + x.length = x.length from Nat.zero_add _]
               have H := E106.drop (L' := (bP g5 P rs.length cp (some ⟨bF, oF, none⟩) left.length cf :: bP g3 P2 rs2.length cp2 F2 left2.length cf2 :: bN g2 m A l.length ca B ts.length cb C ns.length cc hd :: L)) Sb.out)
            | (refine OPS.appendE (m := x.length) (news := x.map I) (R := bM g73 [I v] :: ((bP g5 P rs.length cp (some ⟨bF, oF, none⟩) left.length cf :: bP g3 P2 rs2.length cp2 F2 left2.length cf2 :: bN g2 m A l.length ca B ts.length cb C ns.length cc hd :: L))) rfl rfl rfl rfl rfl (sl_run rfl) rfl rfl (OwnS.mt (g := g65)) (by simp) (intsFrom (hXw _ H)) (intsOne x) (by omega) (by unfold maxLen; omega) E013 (List.Perm.refl _) ?_
               clear H; intro AE ce Le w hOE E1
               have E016 : SH w0 [] w (bM g73 [I v] :: ((bP g5 P rs.length cp (some ⟨bF, oF, none⟩) left.length cf :: bP g3 P2 rs2.length cp2 F2 left2.length cf2 :: bN g2 m A l.length ca B ts.length cb C ns.length cc hd :: L) ++ Le)) := E1
               clear E1 E013
               rw [Nat.zero_add, List.nil_append] at hOE
               rw [show 0 + x.length = x.length from Nat.zero_add _]
               have H := E016.drop (L' := (bP g5 P rs.length cp (some ⟨bF, oF, none⟩) left.length cf :: bP g3 P2 rs2.length cp2 F2 left2.length cf2 :: bN g2 m A l.length ca B ts.length cb C ns.length cc hd :: L)) Sb.out)
            | (refine OPS.appendE (m := x.length) (news := x.map I) (R := (bP g5 P rs.length cp (some ⟨bF, oF, none⟩) left.length cf :: bP g3 P2 rs2.length cp2 F2 left2.length cf2 :: bN g2 m A l.length ca B ts.length cb C ns.length cc hd :: L)) rfl rfl rfl rfl rfl (sl_run rfl) rfl rfl (OwnS.mt (g := g65)) (by simp) (intsFrom (hXw _ H)) (intsOne x) (by omega) (by unfold maxLen; omega) E003 (List.Perm.refl _) ?_
               clear H; intro AE ce Le w hOE E1
               have E006 : SH w0 [] w ((bP g5 P rs.length cp (some ⟨bF, oF, none⟩) left.length cf :: bP g3 P2 rs2.length cp2 F2 left2.length cf2 :: bN g2 m A l.length ca B ts.length cb C ns.length cc hd :: L) ++ Le) := E1
               clear E1 E003
               rw [Nat.zero_add, List.nil_append] at hOE
               rw [show 0 + x.length = x.length from Nat.zero_add _]
               have H := E006.drop (L' := (bP g5 P rs.length cp (some ⟨bF, oF, none⟩) left.length cf :: bP g3 P2 rs2.length cp2 F2 left2.length cf2 :: bN g2 m A l.length ca B ts.length cb C ns.length cc hd :: L)) Sb.out)
            refine Y.z <| ⟨(H), ?_⟩
            refine Y.A1 10 rfl rfl ?_
            first
            | (refine OPS.append (m := 1) (news := [I v]) (R := bR g10 0 none 0 0 :: (bM g73 [I v] :: ((bP g5 P rs.length cp (some ⟨bF, oF, none⟩) left.length cf :: bP g3 P2 rs2.length cp2 F2 left2.length cf2 :: bN g2 m A l.length ca B ts.length cb C ns.length cc hd :: L)))) rfl rfl rfl rfl rfl (sl_run rfl) rfl rfl hOE rfl (src_own E116 1 rfl) rfl (by omega) (by unfold maxLen; omega) E116 (List.Perm.refl _) ?_
               clear H hOE; intro AE ce Le w hOE E1
               rw [show x.map I ++ [I v] = (x ++ [v]).map I by simp] at hOE
               have E119 : SH w0 [] w (bR g10 0 none 0 0 :: (bM g73 [I v] :: ((bP g5 P rs.length cp (some ⟨bF, oF, none⟩) left.length cf :: bP g3 P2 rs2.length cp2 F2 left2.length cf2 :: bN g2 m A l.length ca B ts.length cb C ns.length cc hd :: L) ++ Le))) := E1
               clear E1 E116
               have H := E119.drop (L' := (bP g5 P rs.length cp (some ⟨bF, oF, none⟩) left.length cf :: bP g3 P2 rs2.length cp2 F2 left2.length cf2 :: bN g2 m A l.length ca B ts.length cb C ns.length cc hd :: L)) Sb.out)
            | (refine OPS.append (m := 1) (news := [I v]) (R := bM g73 [I v] :: ((bP g5 P rs.length cp (some ⟨bF, oF, none⟩) left.length cf :: bP g3 P2 rs2.length cp2 F2 left2.length cf2 :: bN g2 m A l.length ca B ts.length cb C ns.length cc hd :: L))) rfl rfl rfl rfl rfl (sl_run rfl) rfl rfl hOE rfl (src_own E016 0 rfl) rfl (by omega) (by unfold maxLen; omega) E016 (List.Perm.refl _) ?_
               clear H hOE; intro AE ce Le w hOE E1
               rw [show x.map I ++ [I v] = (x ++ [v]).map I by simp] at hOE
               have E019 : SH w0 [] w (bM g73 [I v] :: ((bP g5 P rs.length cp (some ⟨bF, oF, none⟩) left.length cf :: bP g3 P2 rs2.length cp2 F2 left2.length cf2 :: bN g2 m A l.length ca B ts.length cb C ns.length cc hd :: L) ++ Le)) := E1
               clear E1 E016
               have H := E019.drop (L' := (bP g5 P rs.length cp (some ⟨bF, oF, none⟩) left.length cf :: bP g3 P2 rs2.length cp2 F2 left2.length cf2 :: bN g2 m A l.length ca B ts.length cb C ns.length cc hd :: L)) Sb.out)
            refine Y.z <| ⟨(H), ?_⟩
            refine Y.t 11 H rfl rfl (fun w H => Ev.build (bld_49_0_1 rfl rfl)) <| Y.A1 13 rfl rfl <| Y.st 0 E119 rfl (cA rfl) rfl ?_
            clear H; intro w E1; clear E119
            simp only [List.set_cons_zero, putL] at E1
            have H := E1.drop (L' := (bP g5 P rs.length cp (some ⟨bF, oF, none⟩) left.length cf :: bP g3 P2 rs2.length cp2 F2 left2.length cf2 :: bN g2 m A l.length ca B ts.length cb C ns.length cc hd :: L)) Sb.out
            refine Y.z <| ⟨(H), ?_⟩
            refine Y.dn ?_
            exact ⟨Y.ag, AE, ce, Le, g10, rfl, hOE, E1.drop (List.Sublist.cons_cons _ (List.sublist_cons_self _ _))⟩
        · first
          | (refine OPS.alloc rfl rfl rfl rfl (zero_run rfl) rfl E019 ?_
             clear H; intro g10 w E1
             have E119 : SH w0 [] w (bR g10 0 none 0 0 :: (bM g73 [I v] :: ((bP g5 P rs.length cp (some ⟨bF, oF, none⟩) left.length cf :: bP g3 P2 rs2.length cp2 F2 left2.length cf2 :: bN g2 m A l.length ca B ts.length cb C ns.length cc hd :: L) ++ Le))) := E1
             clear E1 E019
             have H := E119.drop (L' := (bP g5 P rs.length cp (some ⟨bF, oF, none⟩) left.length cf :: bP g3 P2 rs2.length cp2 F2 left2.length cf2 :: bN g2 m A l.length ca B ts.length cb C ns.length cc hd :: L)) Sb.out)
          | (refine OPS.alloc rfl rfl rfl rfl (zero_run rfl) rfl E016 ?_
             clear H; intro g10 w E1
             have E116 : SH w0 [] w (bR g10 0 none 0 0 :: (bM g73 [I v] :: ((bP g5 P rs.length cp (some ⟨bF, oF, none⟩) left.length cf :: bP g3 P2 rs2.length cp2 F2 left2.length cf2 :: bN g2 m A l.length ca B ts.length cb C ns.length cc hd :: L) ++ Le))) := E1
             clear E1 E016
             have H := E116.drop (L' := (bP g5 P rs.length cp (some ⟨bF, oF, none⟩) left.length cf :: bP g3 P2 rs2.length cp2 F2 left2.length cf2 :: bN g2 m A l.length ca B ts.length cb C ns.length cc hd :: L)) Sb.out)
          | (refine OPS.alloc rfl rfl rfl rfl (zero_run rfl) rfl E006 ?_
             clear H; intro g10 w E1
             have E106 : SH w0 [] w (bR g10 0 none 0 0 :: ((bP g5 P rs.length cp (some ⟨bF, oF, none⟩) left.length cf :: bP g3 P2 rs2.length cp2 F2 left2.length cf2 :: bN g2 m A l.length ca B ts.length cb C ns.length cc hd :: L) ++ Le)) := E1
             clear E1 E006
             have H := E106.drop (L' := (bP g5 P rs.length cp (some ⟨bF, oF, none⟩) left.length cf :: bP g3 P2 rs2.length cp2 F2 left2.length cf2 :: bN g2 m A l.length ca B ts.length cb C ns.length cc hd :: L)) Sb.out)
          | (refine OPS.alloc rfl rfl rfl rfl (zero_run rfl) rfl E013 ?_
             clear H; intro g10 w E1
             have E113 : SH w0 [] w (bR g10 0 none 0 0 :: (bM g73 [I v] :: ((bP g5 P rs.length cp (some ⟨bF, oF, none⟩) left.length cf :: bP g3 P2 rs2.length cp2 F2 left2.length cf2 :: bN g2 m A l.length ca B ts.length cb C ns.length cc hd :: L) ++ [⟨g65, 3, []⟩]))) := E1
             clear E1 E013
             have H := E113.drop (L' := (bP g5 P rs.length cp (some ⟨bF, oF, none⟩) left.length cf :: bP g3 P2 rs2.length cp2 F2 left2.length cf2 :: bN g2 m A l.length ca B ts.length cb C ns.length cc hd :: L)) Sb.out)
          | (refine OPS.alloc rfl rfl rfl rfl (zero_run rfl) rfl E003 ?_
             clear H; intro g10 w E1
             have E103 : SH w0 [] w (bR g10 0 none 0 0 :: ((bP g5 P rs.length cp (some ⟨bF, oF, none⟩) left.length cf :: bP g3 P2 rs2.length cp2 F2 left2.length cf2 :: bN g2 m A l.length ca B ts.length cb C ns.length cc hd :: L) ++ [⟨g65, 3, []⟩])) := E1
             clear E1 E003
             have H := E103.drop (L' := (bP g5 P rs.length cp (some ⟨bF, oF, none⟩) left.length cf :: bP g3 P2 rs2.length cp2 F2 left2.length cf2 :: bN g2 m A l.length ca B ts.length cb C ns.length cc hd :: L)) Sb.out)
          | (refine OPS.alloc rfl rfl rfl rfl (zero_run rfl) rfl E010 ?_
             clear H; intro g10 w E1
             have E110 : SH w0 [] w (bR g10 0 none 0 0 :: (bM g73 [I v] :: ((bP g5 P rs.length cp (some ⟨bF, oF, none⟩) left.length cf :: bP g3 P2 rs2.length cp2 F2 left2.length cf2 :: bN g2 m A l.length ca B ts.length cb C ns.length cc hd :: L)))) := E1
             clear E1 E010
             have H := E110.drop (L' := (bP g5 P rs.length cp (some ⟨bF, oF, none⟩) left.length cf :: bP g3 P2 rs2.length cp2 F2 left2.length cf2 :: bN g2 m A l.length ca B ts.length cb C ns.length cc hd :: L)) Sb.out)
          | (refine OPS.alloc rfl rfl rfl rfl (zero_run rfl) rfl (E000.toBelow hbw15) ?_
             clear H; intro g10 w E1
             have E100 : SH w0 [] w (bR g10 0 none 0 0 :: ((bP g5 P rs.length cp (some ⟨bF, oF, none⟩) left.length cf :: bP g3 P2 rs2.length cp2 F2 left2.length cf2 :: bN g2 m A l.length ca B ts.length cb C ns.length cc hd :: L))) := E1
             clear E1 E000
             have H := E100.drop (L' := (bP g5 P rs.length cp (some ⟨bF, oF, none⟩) left.length cf :: bP g3 P2 rs2.length cp2 F2 left2.length cf2 :: bN g2 m A l.length ca B ts.length cb C ns.length cc hd :: L)) Sb.out)
          refine Y.z <| ⟨(H), ?_⟩
          refine Y.A2 1 9 rfl rfl rfl ?_ ?_
          · first
            | (refine OPS.buildSlice rfl rfl rfl rfl (bsl_32_0_ (e := fun _ => .int .i64 0)) E110 ?_
               clear H; intro g65 w E1
               have E113 : SH w0 [] w (bR g10 0 none 0 0 :: (bM g73 [I v] :: ((bP g5 P rs.length cp (some ⟨bF, oF, none⟩) left.length cf :: bP g3 P2 rs2.length cp2 F2 left2.length cf2 :: bN g2 m A l.length ca B ts.length cb C ns.length cc hd :: L) ++ [⟨g65, 3, []⟩]))) := E1.perm (by exact permBy fun f => by simp <;> omega)
               clear E1 E110
               have H := E113.drop (L' := (bP g5 P rs.length cp (some ⟨bF, oF, none⟩) left.length cf :: bP g3 P2 rs2.length cp2 F2 left2.length cf2 :: bN g2 m A l.length ca B ts.length cb C ns.length cc hd :: L)) Sb.out)
            | (refine OPS.buildSlice rfl rfl rfl rfl (bsl_32_0_ (e := fun _ => .int .i64 0)) E100 ?_
               clear H; intro g65 w E1
               have E103 : SH w0 [] w (bR g10 0 none 0 0 :: ((bP g5 P rs.length cp (some ⟨bF, oF, none⟩) left.length cf :: bP g3 P2 rs2.length cp2 F2 left2.length cf2 :: bN g2 m A l.length ca B ts.length cb C ns.length cc hd :: L) ++ [⟨g65, 3, []⟩])) := E1.perm (by exact permBy fun f => by simp <;> omega)
               clear E1 E100
               have H := E103.drop (L' := (bP g5 P rs.length cp (some ⟨bF, oF, none⟩) left.length cf :: bP g3 P2 rs2.length cp2 F2 left2.length cf2 :: bN g2 m A l.length ca B ts.length cb C ns.length cc hd :: L)) Sb.out)
            | (refine OPS.buildSlice rfl rfl rfl rfl (bsl_32_0_ (e := fun _ => .int .i64 0)) E010 ?_
               clear H; intro g65 w E1
               have E013 : SH w0 [] w (bM g73 [I v] :: ((bP g5 P rs.length cp (some ⟨bF, oF, none⟩) left.length cf :: bP g3 P2 rs2.length cp2 F2 left2.length cf2 :: bN g2 m A l.length ca B ts.length cb C ns.length cc hd :: L) ++ [⟨g65, 3, []⟩])) := E1.perm (by exact permBy fun f => by simp <;> omega)
               clear E1 E010
               have H := E013.drop (L' := (bP g5 P rs.length cp (some ⟨bF, oF, none⟩) left.length cf :: bP g3 P2 rs2.length cp2 F2 left2.length cf2 :: bN g2 m A l.length ca B ts.length cb C ns.length cc hd :: L)) Sb.out)
            | (refine OPS.buildSlice rfl rfl rfl rfl (bsl_32_0_ (e := fun _ => .int .i64 0)) (E000.toBelow hbw15) ?_
               clear H; intro g65 w E1
               have E003 : SH w0 [] w ((bP g5 P rs.length cp (some ⟨bF, oF, none⟩) left.length cf :: bP g3 P2 rs2.length cp2 F2 left2.length cf2 :: bN g2 m A l.length ca B ts.length cb C ns.length cc hd :: L) ++ [⟨g65, 3, []⟩]) := E1.perm (by exact permBy fun f => by simp <;> omega)
               clear E1 E000
               have H := E003.drop (L' := (bP g5 P rs.length cp (some ⟨bF, oF, none⟩) left.length cf :: bP g3 P2 rs2.length cp2 F2 left2.length cf2 :: bN g2 m A l.length ca B ts.length cb C ns.length cc hd :: L)) Sb.out)
            refine Y.z <| ⟨(H), ?_⟩
            refine Y.A2 3 9 rfl rfl rfl ?_ ?_
            · first
              | (refine OPS.appendE (m := x.length) (news := x.map I) (R := bR g10 0 none 0 0 :: (bM g73 [I v] :: ((bP g5 P rs.length cp (some ⟨bF, oF, none⟩) left.length cf :: bP g3 P2 rs2.length cp2 F2 left2.length cf2 :: bN g2 m A l.length ca B ts.length cb C ns.length cc hd :: L)))) rfl rfl rfl rfl rfl (sl_run rfl) rfl rfl (OwnS.mt (g := g65)) (by simp) (intsFrom (hXw _ H)) (intsOne x) (by omega) (by unfold maxLen; omega) E113 (List.Perm.refl _) ?_
                 clear H; intro AE ce Le w hOE E1
                 have E116 : SH w0 [] w (bR g10 0 none 0 0 :: (bM g73 [I v] :: ((bP g5 P rs.length cp (some ⟨bF, oF, none⟩) left.length cf :: bP g3 P2 rs2.length cp2 F2 left2.length cf2 :: bN g2 m A l.length ca B ts.length cb C ns.length cc hd :: L) ++ Le))) := E1
                 clear E1 E113
                 rw [Nat.zero_add, List.nil_append] at hOE
                 rw [show 0 + x.length = x.length from Nat.zero_add _]
                 have H := E116.drop (L' := (bP g5 P rs.length cp (some ⟨bF, oF, none⟩) left.length cf :: bP g3 P2 rs2.length cp2 F2 left2.length cf2 :: bN g2 m A l.length ca B ts.length cb C ns.length cc hd :: L)) Sb.out)
              | (refine OPS.appendE (m := x.length) (news := x.map I) (R := bR g10 0 none 0 0 :: ((bP g5 P rs.length cp (some ⟨bF, oF, none⟩) left.length cf :: bP g3 P2 rs2.length cp2 F2 left2.length cf2 :: bN g2 m A l.length ca B ts.length cb C ns.length cc hd :: L))) rfl rfl rfl rfl rfl (sl_run rfl) rfl rfl (OwnS.mt (g := g65)) (by simp) (intsFrom (hXw _ H)) (intsOne x) (by omega) (by unfold maxLen; omega) E103 (List.Perm.refl _) ?_
                 clear H; intro AE ce Le w hOE E1
                 have E106 : SH w0 [] w (bR g10 0 none 0 0 :: ((bP g5 P rs.length cp (some ⟨bF, oF, none⟩) left.length cf :: bP g3 P2 rs2.length cp2 F2 left2.length cf2 :: bN g2 m A l.length ca B ts.length cb C ns.length cc hd :: L) ++ Le)) := E1
                 clear E1 E103
                 rw [Nat.zero_add, List.nil_append] at hOE
                 rw [show 0 + x.length = x.length from Nat.zero_add _]
                 have H := E106.drop (L' := (bP g5 P rs.length cp (some ⟨bF, oF, none⟩) left.length cf :: bP g3 P2 rs2.length cp2 F2 left2.length cf2 :: bN g2 m A l.length ca B ts.length cb C ns.length cc hd :: L)) Sb.out)
              | (refine OPS.appendE (m := x.length) (news := x.map I) (R := bM g73 [I v] :: ((bP g5 P rs.length cp (some ⟨bF, oF, none⟩) left.length cf :: bP g3 P2 rs2.length cp2 F2 left2.length cf2 :: bN g2 m A l.length ca B ts.length cb C ns.length cc hd :: L))) rfl rfl rfl rfl rfl (sl_run rfl) rfl rfl (OwnS.mt (g := g65)) (by simp) (intsFrom (hXw _ H)) (intsOne x) (by omega) (by unfold maxLen; omega) E013 (List.Perm.refl _) ?_
                 clear H; intro AE ce Le w hOE E1
                 have E016 : SH w0 [] w (bM g73 [I v] :: ((bP g5 P rs.length cp (some ⟨bF, oF, none⟩) left.length cf :: bP g3 P2 rs2.length cp2 F2 left2.length cf2 :: bN g2 m A l.length ca B ts.length cb C ns.length cc hd :: L) ++ Le)) := E1
                 clear E1 E013
                 rw [Nat.zero_add, List.nil_append] at hOE
                 rw [show 0 + x.length = x.length from Nat.zero_add _]
                 have H := E016.drop (L' := (bP g5 P rs.length cp (some ⟨bF, oF, none⟩) left.length cf :: bP g3 P2 rs2.length cp2 F2 left2.length cf2 :: bN g2 m A l.length ca B ts.length cb C ns.length cc hd :: L)) Sb.out)
              | (refine OPS.appendE (m := x.length) (news := x.map I) (R := (bP g5 P rs.length cp (some ⟨bF, oF, none⟩) left.length cf :: bP g3 P2 rs2.length cp2 F2 left2.length cf2 :: bN g2 m A l.length ca B ts.length cb C ns.length cc hd :: L)) rfl rfl rfl rfl rfl (sl_run rfl) rfl rfl (OwnS.mt (g := g65)) (by simp) (intsFrom (hXw _ H)) (intsOne x) (by omega) (by unfold maxLen; omega) E003 (List.Perm.refl _) ?_
                 clear H; intro AE ce Le w hOE E1
                 have E006 : SH w0 [] w ((bP g5 P rs.length cp (some ⟨bF, oF, none⟩) left.length cf :: bP g3 P2 rs2.length cp2 F2 left2.length cf2 :: bN g2 m A l.length ca B ts.length cb C ns.length cc hd :: L) ++ Le) := E1
                 clear E1 E003
                 rw [Nat.zero_add, List.nil_append] at hOE
                 rw [show 0 + x.length = x.length from Nat.zero_add _]
                 have H := E006.drop (L' := (bP g5 P rs.length cp (some ⟨bF, oF, none⟩) left.length cf :: bP g3 P2 rs2.length cp2 F2 left2.length cf2 :: bN g2 m A l.length ca B ts.length cb C ns.length cc hd :: L)) Sb.out)
              refine Y.z <| ⟨(H), ?_⟩
              refine Y.A1 9 rfl rfl ?_
              first
              | (refine OPS.buildSlice rfl rfl rfl rfl (bsl_32_1_0 rfl) E106 ?_
                 clear H; intro g73 w E1
                 have E116 : SH w0 [] w (bR g10 0 none 0 0 :: (bM g73 [I v] :: ((bP g5 P rs.length cp (some ⟨bF, oF, none⟩) left.length cf :: bP g3 P2 rs2.length cp2 F2 left2.length cf2 :: bN g2 m A l.length ca B ts.length cb C ns.length cc hd :: L) ++ Le))) := E1.perm (List.Perm.swap _ _ _)
                 clear E1 E106
                 have H := E116.drop (L' := (bP g5 P rs.length cp (some ⟨bF, oF, none⟩) left.length cf :: bP g3 P2 rs2.length cp2 F2 left2.length cf2 :: bN g2 m A l.length ca B ts.length cb C ns.length cc hd :: L)) Sb.out)
              | (refine OPS.buildSlice rfl rfl rfl rfl (bsl_32_1_0 rfl) E103 ?_
                 clear H; intro g73 w E1
                 have E113 : SH w0 [] w (bR g10 0 none 0 0 :: (bM g73 [I v] :: ((bP g5 P rs.length cp (some ⟨bF, oF, none⟩) left.length cf :: bP g3 P2 rs2.length cp2 F2 left2.length cf2 :: bN g2 m A l.length ca B ts.length cb C ns.length cc hd :: L) ++ [⟨g65, 3, []⟩]))) := E1.perm (List.Perm.swap _ _ _)
                 clear E1 E103
                 have H := E113.drop (L' := (bP g5 P rs.length cp (some ⟨bF, oF, none⟩) left.length cf :: bP g3 P2 rs2.length cp2 F2 left2.length cf2 :: bN g2 m A l.length ca B ts.length cb C ns.length cc hd :: L)) Sb.out)
              | (refine OPS.buildSlice rfl rfl rfl rfl (bsl_32_1_0 rfl) E100 ?_
                 clear H; intro g73 w E1
                 have E110 : SH w0 [] w (bR g10 0 none 0 0 :: (bM g73 [I v] :: ((bP g5 P rs.length cp (some ⟨bF, oF, none⟩) left.length cf :: bP g3 P2 rs2.length cp2 F2 left2.length cf2 :: bN g2 m A l.length ca B ts.length cb C ns.length cc hd :: L)))) := E1.perm (List.Perm.swap _ _ _)
                 clear E1 E100
                 have H := E110.drop (L' := (bP g5 P rs.length cp (some ⟨bF, oF, none⟩) left.length cf :: bP g3 P2 rs2.length cp2 F2 left2.length cf2 :: bN g2 m A l.length ca B ts.length cb C ns.length cc hd :: L)) Sb.out)
              | (refine OPS.buildSlice rfl rfl rfl rfl (bsl_32_1_0 rfl) E006 ?_
                 clear H; intro g73 w E1
                 have E016 : SH w0 [] w (bM g73 [I v] :: ((bP g5 P rs.length cp (some ⟨bF, oF, none⟩) left.length cf :: bP g3 P2 rs2.length cp2 F2 left2.length cf2 :: bN g2 m A l.length ca B ts.length cb C ns.length cc hd :: L) ++ Le)) := E1
                 clear E1 E006
                 have H := E016.drop (L' := (bP g5 P rs.length cp (some ⟨bF, oF, none⟩) left.length cf :: bP g3 P2 rs2.length cp2 F2 left2.length cf2 :: bN g2 m A l.length ca B ts.length cb C ns.length cc hd :: L)) Sb.out)
              | (refine OPS.buildSlice rfl rfl rfl rfl (bsl_32_1_0 rfl) E003 ?_
                 clear H; intro g73 w E1
                 have E013 : SH w0 [] w (bM g73 [I v] :: ((bP g5 P rs.length cp (some ⟨bF, oF, none⟩) left.length cf :: bP g3 P2 rs2.length cp2 F2 left2.length cf2 :: bN g2 m A l.length ca B ts.length cb C ns.length cc hd :: L) ++ [⟨g65, 3, []⟩])) := E1
                 clear E1 E003
                 have H := E013.drop (L' := (bP g5 P rs.length cp (some ⟨bF, oF, none⟩) left.length cf :: bP g3 P2 rs2.length cp2 F2 left2.length cf2 :: bN g2 m A l.length ca B ts.length cb C ns.length cc hd :: L)) Sb.out)
              | (refine OPS.buildSlice rfl rfl rfl rfl (bsl_32_1_0 rfl) (E000.toBelow hbw15) ?_
                 clear H; intro g73 w E1
                 have E010 : SH w0 [] w (bM g73 [I v] :: ((bP g5 P rs.length cp (some ⟨bF, oF, none⟩) left.length cf :: bP g3 P2 rs2.length cp2 F2 left2.length cf2 :: bN g2 m A l.length ca B ts.length cb C ns.length cc hd :: L))) := E1
                 clear E1 E000
                 have H := E010.drop (L' := (bP g5 P rs.length cp (some ⟨bF, oF, none⟩) left.length cf :: bP g3 P2 rs2.length cp2 F2 left2.length cf2 :: bN g2 m A l.length ca B ts.length cb C ns.length cc hd :: L)) Sb.out)
              refine Y.z <| ⟨(H), ?_⟩
              refine Y.A1 10 rfl rfl ?_
              first
              | (refine OPS.append (m := 1) (news := [I v]) (R := bR g10 0 none 0 0 :: (bM g73 [I v] :: ((bP g5 P rs.length cp (some ⟨bF, oF, none⟩) left.length cf :: bP g3 P2 rs2.length cp2 F2 left2.length cf2 :: bN g2 m A l.length ca B ts.length cb C ns.length cc hd :: L)))) rfl rfl rfl rfl rfl (sl_run rfl) rfl rfl hOE rfl (src_own E116 1 rfl) rfl (by omega) (by unfold maxLen; omega) E116 (List.Perm.refl _) ?_
                 clear H hOE; intro AE ce Le w hOE E1
                 rw [show x.map I ++ [I v] = (x ++ [v]).map I by simp] at hOE
                 have E119 : SH w0 [] w (bR g10 0 none 0 0 :: (bM g73 [I v] :: ((bP g5 P rs.length cp (some ⟨bF, oF, none⟩) left.length cf :: bP g3 P2 rs2.length cp2 F2 left2.length cf2 :: bN g2 m A l.length ca B ts.length cb C ns.length cc hd :: L) ++ Le))) := E1
                 clear E1 E116
                 have H := E119.drop (L' := (bP g5 P rs.length cp (some ⟨bF, oF, none⟩) left.length cf :: bP g3 P2 rs2.length cp2 F2 left2.length cf2 :: bN g2 m A l.length ca B ts.length cb C ns.length cc hd :: L)) Sb.out)
              | (refine OPS.append (m := 1) (news := [I v]) (R := bM g73 [I v] :: ((bP g5 P rs.length cp (some ⟨bF, oF, none⟩) left.length cf :: bP g3 P2 rs2.length cp2 F2 left2.length cf2 :: bN g2 m A l.length ca B ts.length cb C ns.length cc hd :: L))) rfl rfl rfl rfl rfl (sl_run rfl) rfl rfl hOE rfl (src_own E016 0 rfl) rfl (by omega) (by unfold maxLen; omega) E016 (List.Perm.refl _) ?_
                 clear H hOE; intro AE ce Le w hOE E1
                 rw [show x.map I ++ [I v] = (x ++ [v]).map I by simp] at hOE
                 have E019 : SH w0 [] w (bM g73 [I v] :: ((bP g5 P rs.length cp (some ⟨bF, oF, none⟩) left.length cf :: bP g3 P2 rs2.length cp2 F2 left2.length cf2 :: bN g2 m A l.length ca B ts.length cb C ns.length cc hd :: L) ++ Le)) := E1
                 clear E1 E016
                 have H := E019.drop (L' := (bP g5 P rs.length cp (some ⟨bF, oF, none⟩) left.length cf :: bP g3 P2 rs2.length cp2 F2 left2.length cf2 :: bN g2 m A l.length ca B ts.length cb C ns.length cc hd :: L)) Sb.out)
              refine Y.z <| ⟨(H), ?_⟩
              refine Y.t 11 H rfl rfl (fun w H => Ev.build (bld_49_0_1 rfl rfl)) <| Y.A1 13 rfl rfl <| Y.st 0 E119 rfl (cA rfl) rfl ?_
              clear H; intro w E1; clear E119
              simp only [List.set_cons_zero, putL] at E1
              have H := E1.drop (L' := (bP g5 P rs.length cp (some ⟨bF, oF, none⟩) left.length cf :: bP g3 P2 rs2.length cp2 F2 left2.length cf2 :: bN g2 m A l.length ca B ts.length cb C ns.length cc hd :: L)) Sb.out
              refine Y.z <| ⟨(H), ?_⟩
              refine Y.dn ?_
              exact ⟨Y.ag, AE, ce, Le, g10, rfl, hOE, E1.drop (List.Sublist.cons_cons _ (List.sublist_cons_self _ _))⟩
            · first
              | (refine OPS.buildSlice rfl rfl rfl rfl (bsl_32_1_0 rfl) E106 ?_
                 clear H; intro g73 w E1
                 have E116 : SH w0 [] w (bR g10 0 none 0 0 :: (bM g73 [I v] :: ((bP g5 P rs.length cp (some ⟨bF, oF, none⟩) left.length cf :: bP g3 P2 rs2.length cp2 F2 left2.length cf2 :: bN g2 m A l.length ca B ts.length cb C ns.length cc hd :: L) ++ Le))) := E1.perm (List.Perm.swap _ _ _)
                 clear E1 E106
                 have H := E116.drop (L' := (bP g5 P rs.length cp (some ⟨bF, oF, none⟩) left.length cf :: bP g3 P2 rs2.length cp2 F2 left2.length cf2 :: bN g2 m A l.length ca B ts.length cb C ns.length cc hd :: L)) Sb.out)
              | (refine OPS.buildSlice rfl rfl rfl rfl (bsl_32_1_0 rfl) E103 ?_
                 clear H; intro g73 w E1
                 have E113 : SH w0 [] w (bR g10 0 none 0 0 :: (bM g73 [I v] :: ((bP g5 P rs.length cp (some ⟨bF, oF, none⟩) left.length cf :: bP g3 P2 rs2.length cp2 F2 left2.length cf2 :: bN g2 m A l.length ca B ts.length cb C ns.length cc hd :: L) ++ [⟨g65, 3, []⟩]))) := E1.perm (List.Perm.swap _ _ _)
                 clear E1 E103
                 have H := E113.drop (L' := (bP g5 P rs.length cp (some ⟨bF, oF, none⟩) left.length cf :: bP g3 P2 rs2.length cp2 F2 left2.length cf2 :: bN g2 m A l.length ca B ts.length cb C ns.length cc hd :: L)) Sb.out)
              | (refine OPS.buildSlice rfl rfl rfl rfl (bsl_32_1_0 rfl) E100 ?_
                 clear H; intro g73 w E1
                 have E110 : SH w0 [] w (bR g10 0 none 0 0 :: (bM g73 [I v] :: ((bP g5 P rs.length cp (some ⟨bF, oF, none⟩) left.length cf :: bP g3 P2 rs2.length cp2 F2 left2.length cf2 :: bN g2 m A l.length ca B ts.length cb C ns.length cc hd :: L)))) := E1.perm (List.Perm.swap _ _ _)
                 clear E1 E100
                 have H := E110.drop (L' := (bP g5 P rs.length cp (some ⟨bF, oF, none⟩) left.length cf :: bP g3 P2 rs2.length cp2 F2 left2.length cf2 :: bN g2 m A l.length ca B ts.length cb C ns.length cc hd :: L)) Sb.out)
              | (refine OPS.buildSlice rfl rfl rfl rfl (bsl_32_1_0 rfl) E006 ?_
                 clear H; intro g73 w E1
                 have E016 : SH w0 [] w (bM g73 [I v] :: ((bP g5 P rs.length cp (some ⟨bF, oF, none⟩) left.length cf :: bP g3 P2 rs2.length cp2 F2 left2.length cf2 :: bN g2 m A l.length ca B ts.length cb C ns.length cc hd :: L) ++ Le)) := E1
                 clear E1 E006
                 have H := E016.drop (L' := (bP g5 P rs.length cp (some ⟨bF, oF, none⟩) left.length cf :: bP g3 P2 rs2.length cp2 F2 left2.length cf2 :: bN g2 m A l.length ca B ts.length cb C ns.length cc hd :: L)) Sb.out)
              | (refine OPS.buildSlice rfl rfl rfl rfl (bsl_32_1_0 rfl) E003 ?_
                 clear H; intro g73 w E1
                 have E013 : SH w0 [] w (bM g73 [I v] :: ((bP g5 P rs.length cp (some ⟨bF, oF, none⟩) left.length cf :: bP g3 P2 rs2.length cp2 F2 left2.length cf2 :: bN g2 m A l.length ca B ts.length cb C ns.length cc hd :: L) ++ [⟨g65, 3, []⟩])) := E1
                 clear E1 E003
                 have H := E013.drop (L' := (bP g5 P rs.length cp (some ⟨bF, oF, none⟩) left.length cf :: bP g3 P2 rs2.length cp2 F2 left2.length cf2 :: bN g2 m A l.length ca B ts.length cb C ns.length cc hd :: L)) Sb.out)
              | (refine OPS.buildSlice rfl rfl rfl rfl (bsl_32_1_0 rfl) (E000.toBelow hbw15) ?_
                 clear H; intro g73 w E1
                 have E010 : SH w0 [] w (bM g73 [I v] :: ((bP g5 P rs.length cp (some ⟨bF, oF, none⟩) left.length cf :: bP g3 P2 rs2.length cp2 F2 left2.length cf2 :: bN g2 m A l.length ca B ts.length cb C ns.length cc hd :: L))) := E1
                 clear E1 E000
                 have H := E010.drop (L' := (bP g5 P rs.length cp (some ⟨bF, oF, none⟩) left.length cf :: bP g3 P2 rs2.length cp2 F2 left2.length cf2 :: bN g2 m A l.length ca B ts.length cb C ns.length cc hd :: L)) Sb.out)
              refine Y.z <| ⟨(H), ?_⟩
              refine Y.A1 3 rfl rfl ?_
              first
              | (refine OPS.appendE (m := x.length) (news := x.map I) (R := bR g10 0 none 0 0 :: (bM g73 [I v] :: ((bP g5 P rs.length cp (some ⟨bF, oF, none⟩) left.length cf :: bP g3 P2 rs2.length cp2 F2 left2.length cf2 :: bN g2 m A l.length ca B ts.length cb C ns.length cc hd :: L)))) rfl rfl rfl rfl rfl (sl_run rfl) rfl rfl (OwnS.mt (g := g65)) (by simp) (intsFrom (hXw _ H)) (intsOne x) (by omega) (by unfold maxLen; omega) E113 (List.Perm.refl _) ?_
                 clear H; intro AE ce Le w hOE E1
                 have E116 : SH w0 [] w (bR g10 0 none 0 0 :: (bM g73 [I v] :: ((bP g5 P rs.length cp (some ⟨bF, oF, none⟩) left.length cf :: bP g3 P2 rs2.length cp2 F2 left2.length cf2 :: bN g2 m A l.length ca B ts.length cb C ns.length cc hd :: L) ++ Le))) := E1
                 clear E1 E113
                 rw [Nat.zero_add, List.nil_append] at hOE
                 rw [show 0 + x.length = x.length from Nat.zero_add _]
                 have H := E116.drop (L' := (bP g5 P rs.length cp (some ⟨bF, oF, none⟩) left.length cf :: bP g3 P2 rs2.length cp2 F2 left2.length cf2 :: bN g2 m A l.length ca B ts.length cb C ns.length cc hd :: L)) Sb.out)
              | (refine OPS.appendE (m := x.length) (news := x.map I) (R := bR g10 0 none 0 0 :: ((bP g5 P rs.length cp (some ⟨bF, oF, none⟩) left.length cf :: bP g3 P2 rs2.length cp2 F2 left2.length cf2 :: bN g2 m A l.length ca B ts.length cb C ns.length cc hd :: L))) rfl rfl rfl rfl rfl (sl_run rfl) rfl rfl (OwnS.mt (g := g65)) (by simp) (intsFrom (hXw _ H)) (intsOne x) (by omega) (by unfold maxLen; omega) E103 (List.Perm.refl _) ?_
                 clear H; intro AE ce Le w hOE E1
                 have E106 : SH w0 [] w (bR g10 0 none 0 0 :: ((bP g5 P rs.length cp (some ⟨bF, oF, none⟩) left.length cf :: bP g3 P2 rs2.length cp2 F2 left2.length cf2 :: bN g2 m A l.length ca B ts.length cb C ns.length cc hd :: L) ++ Le)) := E1
                 clear E1 E103
                 rw [Nat.zero_add, List.nil_append] at hOE
                 rw [show 0 + x.length = x.length from Nat.zero_add _]
                 have H := E106.drop (L' := (bP g5 P rs.length cp (some ⟨bF, oF, none⟩) left.length cf :: bP g3 P2 rs2.length cp2 F2 left2.length cf2 :: bN g2 m A l.length ca B ts.length cb C ns.length cc hd :: L)) Sb.out)
              | (refine OPS.appendE (m := x.length) (news := x.map I) (R := bM g73 [I v] :: ((bP g5 P rs.length cp (some ⟨bF, oF, none⟩) left.length cf :: bP g3 P2 rs2.length cp2 F2 left2.length cf2 :: bN g2 m A l.length ca B ts.length cb C ns.length cc hd :: L))) rfl rfl rfl rfl rfl (sl_run rfl) rfl rfl (OwnS.mt (g := g65)) (by simp) (intsFrom (hXw _ H)) (intsOne x) (by omega) (by unfold maxLen; omega) E013 (List.Perm.refl _) ?_
                 clear H; intro AE ce Le w hOE E1
                 have E016 : SH w0 [] w (bM g73 [I v] :: ((bP g5 P rs.length cp (some ⟨bF, oF, none⟩) left.length cf :: bP g3 P2 rs2.length cp2 F2 left2.length cf2 :: bN g2 m A l.length ca B ts.length cb C ns.length cc hd :: L) ++ Le)) := E1
                 clear E1 E013
                 rw [Nat.zero_add, List.nil_append] at hOE
                 rw [show 0 + x.length = x.length from Nat.zero_add _]
                 have H := E016.drop (L' := (bP g5 P rs.length cp (some ⟨bF, oF, none⟩) left.length cf :: bP g3 P2 rs2.length cp2 F2 left2.length cf2 :: bN g2 m A l.length ca B ts.length cb C ns.length cc hd :: L)) Sb.out)
              | (refine OPS.appendE (m := x.length) (news := x.map I) (R := (bP g5 P rs.length cp (some ⟨bF, oF, none⟩) left.length cf :: bP g3 P2 rs2.length cp2 F2 left2.length cf2 :: bN g2 m A l.length ca B ts.length cb C ns.length cc hd :: L)) rfl rfl rfl rfl rfl (sl_run rfl) rfl rfl (OwnS.mt (g := g65)) (by simp) (intsFrom (hXw _ H)) (intsOne x) (by omega) (by unfold maxLen; omega) E003 (List.Perm.refl _) ?_
                 clear H; intro AE ce Le w hOE E1
                 have E006 : SH w0 [] w ((bP g5 P rs.length cp (some ⟨bF, oF, none⟩) left.length cf :: bP g3 P2 rs2.length cp2 F2 left2.length cf2 :: bN g2 m A l.length ca B ts.length cb C ns.length cc hd :: L) ++ Le) := E1
                 clear E1 E003
                 rw [Nat.zero_add, List.nil_append] at hOE
                 rw [show 0 + x.length = x.length from Nat.zero_add _]
                 have H := E006.drop (L' := (bP g5 P rs.length cp (some ⟨bF, oF, none⟩) left.length cf :: bP g3 P2 rs2.length cp2 F2 left2.length cf2 :: bN g2 m A l.length ca B ts.length cb C ns.length cc hd :: L)) Sb.out)
              refine Y.z <| ⟨(H), ?_⟩
              refine Y.A1 10 rfl rfl ?_
              first
              | (refine OPS.append (m := 1) (news := [I v]) (R := bR g10 0 none 0 0 :: (bM g73 [I v] :: ((bP g5 P rs.length cp (some ⟨bF, oF, none⟩) left.length cf :: bP g3 P2 rs2.length cp2 F2 left2.length cf2 :: bN g2 m A l.length ca B ts.length cb C ns.length cc hd :: L)))) rfl rfl rfl rfl rfl (sl_run rfl) rfl rfl hOE rfl (src_own E116 1 rfl) rfl (by omega) (by unfold maxLen; omega) E116 (List.Perm.refl _) ?_
                 clear H hOE; intro AE ce Le w hOE E1
                 rw [show x.map I ++ [I v] = (x ++ [v]).map I by simp] at hOE
                 have E119 : SH w0 [] w (bR g10 0 none 0 0 :: (bM g73 [I v] :: ((bP g5 P rs.length cp (some ⟨bF, oF, none⟩) left.length cf :: bP g3 P2 rs2.length cp2 F2 left2.length cf2 :: bN g2 m A l.length ca B ts.length cb C ns.length cc hd :: L) ++ Le))) := E1
                 clear E1 E116
                 have H := E119.drop (L' := (bP g5 P rs.length cp (some ⟨bF, oF, none⟩) left.length cf :: bP g3 P2 rs2.length cp2 F2 left2.length cf2 :: bN g2 m A l.length ca B ts.length cb C ns.length cc hd :: L)) Sb.out)
              | (refine OPS.append (m := 1) (news := [I v]) (R := bM g73 [I v] :: ((bP g5 P rs.length cp (some ⟨bF, oF, none⟩) left.length cf :: bP g3 P2 rs2.length cp2 F2 left2.length cf2 :: bN g2 m A l.length ca B ts.length cb C ns.length cc hd :: L))) rfl rfl rfl rfl rfl (sl_run rfl) rfl rfl hOE rfl (src_own E016 0 rfl) rfl (by omega) (by unfold maxLen; omega) E016 (List.Perm.refl _) ?_
                 clear H hOE; intro AE ce Le w hOE E1
                 rw [show x.map I ++ [I v] = (x ++ [v]).map I by simp] at hOE
                 have E019 : SH w0 [] w (bM g73 [I v] :: ((bP g5 P rs.length cp (some ⟨bF, oF, none⟩) left.length cf :: bP g3 P2 rs2.length cp2 F2 left2.length cf2 :: bN g2 m A l.length ca B ts.length cb C ns.length cc hd :: L) ++ Le)) := E1
                 clear E1 E016
                 have H := E019.drop (L' := (bP g5 P rs.length cp (some ⟨bF, oF, none⟩) left.length cf :: bP g3 P2 rs2.length cp2 F2 left2.length cf2 :: bN g2 m A l.length ca B ts.length cb C ns.length cc hd :: L)) Sb.out)
              refine Y.z <| ⟨(H), ?_⟩
              refine Y.t 11 H rfl rfl (fun w H => Ev.build (bld_49_0_1 rfl rfl)) <| Y.A1 13 rfl rfl <| Y.st 0 E119 rfl (cA rfl) rfl ?_
              clear H; intro w E1; clear E119
              simp only [List.set_cons_zero, putL] at E1
              have H := E1.drop (L' := (bP g5 P rs.length cp (some ⟨bF, oF, none⟩) left.length cf :: bP g3 P2 rs2.length cp2 F2 left2.length cf2 :: bN g2 m A l.length ca B ts.length cb C ns.length cc hd :: L)) Sb.out
              refine Y.z <| ⟨(H), ?_⟩
              refine Y.dn ?_
              exact ⟨Y.ag, AE, ce, Le, g10, rfl, hOE, E1.drop (List.Sublist.cons_cons _ (List.sublist_cons_self _ _))⟩
          · first
            | (refine OPS.buildSlice rfl rfl rfl rfl (bsl_32_1_0 rfl) E106 ?_
               clear H; intro g73 w E1
               have E116 : SH w0 [] w (bR g10 0 none 0 0 :: (bM g73 [I v] :: ((bP g5 P rs.length cp (some ⟨bF, oF, none⟩) left.length cf :: bP g3 P2 rs2.length cp2 F2 left2.length cf2 :: bN g2 m A l.length ca B ts.length cb C ns.length cc hd :: L) ++ Le))) := E1.perm (List.Perm.swap _ _ _)
               clear E1 E106
               have H := E116.drop (L' := (bP g5 P rs.length cp (some ⟨bF, oF, none⟩) left.length cf :: bP g3 P2 rs2.length cp2 F2 left2.length cf2 :: bN g2 m A l.length ca B ts.length cb C ns.length cc hd :: L)) Sb.out)
            | (refine OPS.buildSlice rfl rfl rfl rfl (bsl_32_1_0 rfl) E103 ?_
               clear H; intro g73 w E1
               have E113 : SH w0 [] w (bR g10 0 none 0 0 :: (bM g73 [I v] :: ((bP g5 P rs.length cp (some ⟨bF, oF, none⟩) left.length cf :: bP g3 P2 rs2.length cp2 F2 left2.length cf2 :: bN g2 m A l.length ca B ts.length cb C ns.length cc hd :: L) ++ [⟨g65, 3, []⟩]))) := E1.perm (List.Perm.swap _ _ _)
               clear E1 E103
               have H := E113.drop (L' := (bP g5 P rs.length cp (some ⟨bF, oF, none⟩) left.length cf :: bP g3 P2 rs2.length cp2 F2 left2.length cf2 :: bN g2 m A l.length ca B ts.length cb C ns.length cc hd :: L)) Sb.out)
            | (refine OPS.buildSlice rfl rfl rfl rfl (bsl_32_1_0 rfl) E100 ?_
               clear H; intro g73 w E1
               have E110 : SH w0 [] w (bR g10 0 none 0 0 :: (bM g73 [I v] :: ((bP g5 P rs.length cp (some ⟨bF, oF, none⟩) left.length cf :: bP g3 P2 rs2.length cp2 F2 left2.length cf2 :: bN g2 m A l.length ca B ts.length cb C ns.length cc hd :: L)))) := E1.perm (List.Perm.swap _ _ _)
               clear E1 E100
               have H := E110.drop (L' := (bP g5 P rs.length cp (some ⟨bF, oF, none⟩) left.length cf :: bP g3 P2 rs2.length cp2 F2 left2.length cf2 :: bN g2 m A l.length ca B ts.length cb C ns.length cc hd :: L)) Sb.out)
            | (refine OPS.buildSlice rfl rfl rfl rfl (bsl_32_1_0 rfl) E006 ?_
               clear H; intro g73 w E1
               have E016 : SH w0 [] w (bM g73 [I v] :: ((bP g5 P rs.length cp (some ⟨bF, oF, none⟩) left.length cf :: bP g3 P2 rs2.length cp2 F2 left2.length cf2 :: bN g2 m A l.length ca B ts.length cb C ns.length cc hd :: L) ++ Le)) := E1
               clear E1 E006
               have H := E016.drop (L' := (bP g5 P rs.length cp (some ⟨bF, oF, none⟩) left.length cf :: bP g3 P2 rs2.length cp2 F2 left2.length cf2 :: bN g2 m A l.length ca B ts.length cb C ns.length cc hd :: L)) Sb.out)
            | (refine OPS.buildSlice rfl rfl rfl rfl (bsl_32_1_0 rfl) E003 ?_
               clear H; intro g73 w E1
               have E013 : SH w0 [] w (bM g73 [I v] :: ((bP g5 P rs.length cp (some ⟨bF, oF, none⟩) left.length cf :: bP g3 P2 rs2.length cp2 F2 left2.length cf2 :: bN g2 m A l.length ca B ts.length cb C ns.length cc hd :: L) ++ [⟨g65, 3, []⟩])) := E1
               clear E1 E003
               have H := E013.drop (L' := (bP g5 P rs.length cp (some ⟨bF, oF, none⟩) left.length cf :: bP g3 P2 rs2.length cp2 F2 left2.length cf2 :: bN g2 m A l.length ca B ts.length cb C ns.length cc hd :: L)) Sb.out)
            | (refine OPS.buildSlice rfl rfl rfl rfl (bsl_32_1_0 rfl) (E000.toBelow hbw15) ?_
               clear H; intro g73 w E1
               have E010 : SH w0 [] w (bM g73 [I v] :: ((bP g5 P rs.length cp (some ⟨bF, oF, none⟩) left.length cf :: bP g3 P2 rs2.length cp2 F2 left2.length cf2 :: bN g2 m A l.length ca B ts.length cb C ns.length cc hd :: L))) := E1
               clear E1 E000
               have H := E010.drop (L' := (bP g5 P rs.length cp (some ⟨bF, oF, none⟩) left.length cf :: bP g3 P2 rs2.length cp2 F2 left2.length cf2 :: bN g2 m A l.length ca B ts.length cb C ns.length cc hd :: L)) Sb.out)
            refine Y.z <| ⟨(H), ?_⟩
            refine Y.A1 1 rfl rfl ?_
            first
            | (refine OPS.buildSlice rfl rfl rfl rfl (bsl_32_0_ (e := fun _ => .int .i64 0)) E110 ?_
               clear H; intro g65 w E1
               have E113 : SH w0 [] w (bR g10 0 none 0 0 :: (bM g73 [I v] :: ((bP g5 P rs.length cp (some ⟨bF, oF, none⟩) left.length cf :: bP g3 P2 rs2.length cp2 F2 left2.length cf2 :: bN g2 m A l.length ca B ts.length cb C ns.length cc hd :: L) ++ [⟨g65, 3, []⟩]))) := E1.perm (by exact permBy fun f => by simp <;> omega)
               clear E1 E110
               have H := E113.drop (L' := (bP g5 P rs.length cp (some ⟨bF, oF, none⟩) left.length cf :: bP g3 P2 rs2.length cp2 F2 left2.length cf2 :: bN g2 m A l.length ca B ts.length cb C ns.length cc hd :: L)) Sb.out)
            | (refine OPS.buildSlice rfl rfl rfl rfl (bsl_32_0_ (e := fun _ => .int .i64 0)) E100 ?_
               clear H; intro g65 w E1
               have E103 : SH w0 [] w (bR g10 0 none 0 0 :: ((bP g5 P rs.length cp (some ⟨bF, oF, none⟩) left.length cf :: bP g3 P2 rs2.length cp2 F2 left2.length cf2 :: bN g2 m A l.length ca B ts.length cb C ns.length cc hd :: L) ++ [⟨g65, 3, []⟩])) := E1.perm (by exact permBy fun f => by simp <;> omega)
               clear E1 E100
               have H := E103.drop (L' := (bP g5 P rs.length cp (some ⟨bF, oF, none⟩) left.length cf :: bP g3 P2 rs2.length cp2 F2 left2.length cf2 :: bN g2 m A l.length ca B ts.length cb C ns.length cc hd :: L)) Sb.out)
            | (refine OPS.buildSlice rfl rfl rfl rfl (bsl_32_0_ (e := fun _ => .int .i64 0)) E010 ?_
               clear H; intro g65 w E1
               have E013 : SH w0 [] w (bM g73 [I v] :: ((bP g5 P rs.length cp (some ⟨bF, oF, none⟩) left.length cf :: bP g3 P2 rs2.length cp2 F2 left2.length cf2 :: bN g2 m A l.length ca B ts.length cb C ns.length cc hd :: L) ++ [⟨g65, 3, []⟩])) := E1.perm (by exact permBy fun f => by simp <;> omega)
               clear E1 E010
               have H := E013.drop (L' := (bP g5 P rs.length cp (some ⟨bF, oF, none⟩) left.length cf :: bP g3 P2 rs2.length cp2 F2 left2.length cf2 :: bN g2 m A l.length ca B ts.length cb C ns.length cc hd :: L)) Sb.out)
            | (refine OPS.buildSlice rfl rfl rfl rfl (bsl_32_0_ (e := fun _ => .int .i64 0)) (E000.toBelow hbw15) ?_
               clear H; intro g65 w E1
               have E003 : SH w0 [] w ((bP g5 P rs.length cp (some ⟨bF, oF, none⟩) left.length cf :: bP g3 P2 rs2.length cp2 F2 left2.length cf2 :: bN g2 m A l.length ca B ts.length cb C ns.length cc hd :: L) ++ [⟨g65, 3, []⟩]) := E1.perm (by exact permBy fun f => by simp <;> omega)
               clear E1 E000
               have H := E003.drop (L' := (bP g5 P rs.length cp (some ⟨bF, oF, none⟩) left.length cf :: bP g3 P2 rs2.length cp2 F2 left2.length cf2 :: bN g2 m A l.length ca B ts.length cb C ns.length cc hd :: L)) Sb.out)
            refine Y.z <| ⟨(H), ?_⟩
            refine Y.A1 3 rfl rfl ?_
            first
            | (refine OPS.appendE (m := x.length) (news := x.map I) (R := bR g10 0 none 0 0 :: (bM g73 [I v] :: ((bP g5 P rs.length cp (some ⟨bF, oF, none⟩) left.length cf :: bP g3 P2 rs2.length cp2 F2 left2.length cf2 :: bN g2 m A l.length ca B ts.length cb C ns.length cc hd :: L)))) rfl rfl rfl rfl rfl (sl_run rfl) rfl rfl (OwnS.mt (g := g65)) (by simp) (intsFrom (hXw _ H)) (intsOne x) (by omega) (by unfold maxLen; omega) E113 (List.Perm.refl _) ?_
               clear H; intro AE ce Le w hOE E1
               have E116 : SH w0 [] w (bR g10 0 none 0 0 :: (bM g73 [I v] :: ((bP g5 P rs.length cp (some ⟨bF, oF, none⟩) left.length cf :: bP g3 P2 rs2.length cp2 F2 left2.length cf2 :: bN g2 m A l.length ca B ts.length cb C ns.length cc hd :: L) ++ Le))) := E1
               clear E1 E113
               rw [Nat.zero_add, List.nil_append] at hOE
               rw [show 0 + x.length = x.length from Nat.zero_add _]
               have H := E116.drop (L' := (bP g5 P rs.length cp (some ⟨bF, oF, none⟩) left.length cf :: bP g3 P2 rs2.length cp2 F2 left2.length cf2 :: bN g2 m A l.length ca B ts.length cb C ns.length cc hd :: L)) Sb.out)
            | (refine OPS.appendE (m := x.length) (news := x.map I) (R := bR g10 0 none 0 0 :: ((bP g5 P rs.length cp (some ⟨bF, oF, none⟩) left.length cf :: bP g3 P2 rs2.length cp2 F2 left2.length cf2 :: bN g2 m A l.length ca B ts.length cb C ns.length cc hd :: L))) rfl rfl rfl rfl rfl (sl_run rfl) rfl rfl (OwnS.mt (g := g65)) (by simp) (intsFrom (hXw _ H)) (intsOne x) (by omega) (by unfold maxLen; omega) E103 (List.Perm.refl _) ?_
               clear H; intro AE ce Le w hOE E1
               have E106 : SH w0 [] w (bR g10 0 none 0 0 :: ((bP g5 P rs.length cp (some ⟨bF, oF, none⟩) left.length cf :: bP g3 P2 rs2.length cp2 F2 left2.length cf2 :: bN g2 m A l.length ca B ts.length cb C ns.length cc hd :: L) ++ Le)) := E1
               clear E1 E103
               rw [Nat.zero_add, List.nil_append] at hOE
               rw [show 0 + x.length = x.length from Nat.zero_add _]
               have H := E106.drop (L' := (bP g5 P rs.length cp (some ⟨bF, oF, none⟩) left.length cf :: bP g3 P2 rs2.length cp2 F2 left2.length cf2 :: bN g2 m A l.length ca B ts.length cb C ns.length cc hd :: L)) Sb.out)
            | (refine OPS.appendE (m := x.length) (news := x.map I) (R := bM g73 [I v] :: ((bP g5 P rs.length cp (some ⟨bF, oF, none⟩) left.length cf :: bP g3 P2 rs2.length cp2 F2 left2.length cf2 :: bN g2 m A l.length ca B ts.length cb C ns.length cc hd :: L))) rfl rfl rfl rfl rfl (sl_run rfl) rfl rfl (OwnS.mt (g := g65)) (by simp) (intsFrom (hXw _ H)) (intsOne x) (by omega) (by unfold maxLen; omega) E013 (List.Perm.refl _) ?_
               clear H; intro AE ce Le w hOE E1
               have E016 : SH w0 [] w (bM g73 [I v] :: ((bP g5 P rs.length cp (some ⟨bF, oF, none⟩) left.length cf :: bP g3 P2 rs2.length cp2 F2 left2.length cf2 :: bN g2 m A l.length ca B ts.length cb C ns.length cc hd :: L) ++ Le)) := E1
               clear E1 E013
               rw [Nat.zero_add, List.nil_append] at hOE
               rw [show 0 + x.length = x.length from Nat.zero_add _]
               have H := E016.drop (L' := (bP g5 P rs.length cp (some ⟨bF, oF, none⟩) left.length cf :: bP g3 P2 rs2.length cp2 F2 left2.length cf2 :: bN g2 m A l.length ca B ts.length cb C ns.length cc hd :: L)) Sb.out)
            | (refine OPS.appendE (m := x.length) (news := x.map I) (R := (bP g5 P rs.length cp (some ⟨bF, oF, none⟩) left.length cf :: bP g3 P2 rs2.length cp2 F2 left2.length cf2 :: bN g2 m A l.length ca B ts.length cb C ns.length cc hd :: L)) rfl rfl rfl rfl rfl (sl_run rfl) rfl rfl (OwnS.mt (g := g65)) (by simp) (intsFrom (hXw _ H)) (intsOne x) (by omega) (by unfold maxLen; omega) E003 (List.Perm.refl _) ?_
               clear H; intro AE ce Le w hOE E1
               have E006 : SH w0 [] w ((bP g5 P rs.length cp (some ⟨bF, oF, none⟩) left.length cf :: bP g3 P2 rs2.length cp2 F2 left2.length cf2 :: bN g2 m A l.length ca B ts.length cb C ns.length cc hd :: L) ++ Le) := E1
               clear E1 E003
               rw [Nat.zero_add, List.nil_append] at hOE
               rw [show 0 + x.length = x.length from Nat.zero_add _]
               have H := E006.drop (L' := (bP g5 P rs.length cp (some ⟨bF, oF, none⟩) left.length cf :: bP g3 P2 rs2.length cp2 F2 left2.length cf2 :: bN g2 m A l.length ca B ts.length cb C ns.length cc hd :: L)) Sb.out)
            refine Y.z <| ⟨(H), ?_⟩
            refine Y.A1 10 rfl rfl ?_
            first
            | (refine OPS.append (m := 1) (news := [I v]) (R := bR g10 0 none 0 0 :: (bM g73 [I v] :: ((bP g5 P rs.length cp (some ⟨bF, oF, none⟩) left.length cf :: bP g3 P2 rs2.length cp2 F2 left2.length cf2 :: bN g2 m A l.length ca B ts.length cb C ns.length cc hd :: L)))) rfl rfl rfl rfl rfl (sl_run rfl) rfl rfl hOE rfl (src_own E116 1 rfl) rfl (by omega) (by unfold maxLen; omega) E116 (List.Perm.refl _) ?_
               clear H hOE; intro AE ce Le w hOE E1
               rw [show x.map I ++ [I v] = (x ++ [v]).map I by simp] at hOE
               have E119 : SH w0 [] w (bR g10 0 none 0 0 :: (bM g73 [I v] :: ((bP g5 P rs.length cp (some ⟨bF, oF, none⟩) left.length cf :: bP g3 P2 rs2.length cp2 F2 left2.length cf2 :: bN g2 m A l.length ca B ts.length cb C ns.length cc hd :: L) ++ Le))) := E1
               clear E1 E116
               have H := E119.drop (L' := (bP g5 P rs.length cp (some ⟨bF, oF, none⟩) left.length cf :: bP g3 P2 rs2.length cp2 F2 left2.length cf2 :: bN g2 m A l.length ca B ts.length cb C ns.length cc hd :: L)) Sb.out)
            | (refine OPS.append (m := 1) (news := [I v]) (R := bM g73 [I v] :: ((bP g5 P rs.length cp (some ⟨bF, oF, none⟩) left.length cf :: bP g3 P2 rs2.length cp2 F2 left2.length cf2 :: bN g2 m A l.length ca B ts.length cb C ns.length cc hd :: L))) rfl rfl rfl rfl rfl (sl_run rfl) rfl rfl hOE rfl (src_own E016 0 rfl) rfl (by omega) (by unfold maxLen; omega) E016 (List.Perm.refl _) ?_
               clear H hOE; intro AE ce Le w hOE E1
               rw [show x.map I ++ [I v] = (x ++ [v]).map I by simp] at hOE
               have E019 : SH w0 [] w (bM g73 [I v] :: ((bP g5 P rs.length cp (some ⟨bF, oF, none⟩) left.length cf :: bP g3 P2 rs2.length cp2 F2 left2.length cf2 :: bN g2 m A l.length ca B ts.length cb C ns.length cc hd :: L) ++ Le)) := E1
               clear E1 E016
               have H := E019.drop (L' := (bP g5 P rs.length cp (some ⟨bF, oF, none⟩) left.length cf :: bP g3 P2 rs2.length cp2 F2 left2.length cf2 :: bN g2 m A l.length ca B ts.length cb C ns.length cc hd :: L)) Sb.out)
            refine Y.z <| ⟨(H), ?_⟩
            refine Y.t 11 H rfl rfl (fun w H => Ev.build (bld_49_0_1 rfl rfl)) <| Y.A1 13 rfl rfl <| Y.st 0 E119 rfl (cA rfl) rfl ?_
            clear H; intro w E1; clear E119
            simp only [List.set_cons_zero, putL] at E1
            have H := E1.drop (L' := (bP g5 P rs.length cp (some ⟨bF, oF, none⟩) left.length cf :: bP g3 P2 rs2.length cp2 F2 left2.length cf2 :: bN g2 m A l.length ca B ts.length cb C ns.length cc hd :: L)) Sb.out
            refine Y.z <| ⟨(H), ?_⟩
            refine Y.dn ?_
            exact ⟨Y.ag, AE, ce, Le, g10, rfl, hOE, E1.drop (List.Sublist.cons_cons _ (List.sublist_cons_self _ _))⟩
      clear H
      rintro u w ⟨AE, ce, Le, g10, h10, hOE, H⟩
      refine WP.know (t := 10) h10 ?_
      clear E000
      simp only [List.cons_append] at H
      refine Y.q ?_
      have hwk := fun w hz ht hn hr => truckWalkP m hd j A B C AE l ts ns (x ++ [v]) ca cb cc ce w hz ht hn hN.c hr (by unfold maxLen; omega) (by rw [hxv]; exact hOE.le)
      rw [hxv] at hwk
      refine Y.r <| Y.v (Y.o H 3 rfl rfl) <| Y.v (Y.o H 0 rfl rfl) <| OPS.call (d := some 79) rfl rfl rfl (EvC.func (fun_run rfl)) (hwk w (hN.sh H).l (hN.sh H).t (hN.sh H).n (hOE.ones (R := []) (H.drop (L' := Le) Sb.out)).1) ?_
      rintro _ w ⟨W, cw, Lw, rfl, hOW, Hc⟩
      refine ⟨_, rfl, ?_⟩
      replace H := SH.call (L1 := _) (Lv := []) (by rw [List.append_nil]; exact H) Hc
      clear Hc
      simp only [List.cons_append] at H
      refine Y.v (Ev.mvT rfl) <| Y.v (Ev.extract rfl rfl) <| Y.v (Ev.extract rfl rfl) <| Y.v (Ev.extract rfl rfl) <| Y.v (Ev.asS rfl) <| Y.b rfl <| Y.b rfl <| Y.z <| Y.qr <| Y.a rfl <| Y.v (Ev.eql rfl rfl) <| Y.z ?_
      refine WP.cond rfl (fun hc17 => ?_) (fun hc17 => ?_)
      · refine Y.qr <| Y.v (Ev.asB rfl) <| Y.z ?_
        refine WP.ret ⟨_, rfl, ?_⟩
        exact absurd (by simpa using hc17) hfull
      refine Y.k <| Y.r <| Y.a rfl <| Y.v (Y.p rfl rfl) <| Y.b rfl <| Y.z ?_
      exact ⟨Y.ag, k2 - 1, by omega, i + 1, by omega, rfl, H.drop Sb.out⟩
    refine WP.exit <| XB.hit <| Y.r <| Y.a rfl <| Y.v (Y.p rfl rfl) <| Y.b rfl <| Y.z ?_
    exact ⟨Y.ag, k - 1, by omega, j + 1, by omega, rfl, H⟩
  refine WP.exit <| XB.hit <| Y.qr <| Y.fa rfl rfl <| Y.j H 2 rfl rfl rfl <| Y.v (Y.n rfl) <| Y.v (Ev.neq rfl rfl) <| Y.v (Ev.mvB rfl) <| Y.g rfl rfl (fun hg => Y.f rfl rfl) <| Y.y rfl rfl H 2 (fun hg => gvE hg rfl) rfl rfl <| Y.g rfl rfl (fun hg => Ev.len (el_run rfl) (gvE hg rfl)) <| Y.g rfl rfl (fun hg => Ev.gtr (gvE hg rfl) rfl) <| Y.v (Ev.pickOr rfl rfl rfl) <| Y.v (Ev.mvB rfl) <| Y.g rfl rfl (fun hg => Y.o H 2 rfl rfl) <| Y.g rfl rfl (fun hg => Y.o H 1 rfl rfl) <| Y.g rfl rfl (fun hg => Y.o H 0 rfl rfl) <| OPS.gcall0 (f := 19) (rebBetter m hd A B C P2 F2 P F l ts ns rs2 rs left2 left ca cb cc cp2 cf2 cp cf w (hN.sh H) (hS2.sh H) (hF2.sh H) hl2 (hR.at H Sb.out).1 (hR.at H Sb.out).2 (by omega) (by omega)) (fun _ _ h => h) rfl rfl rfl rfl rfl (fun hg => EvC.conv (EvC.func (fun_run rfl)) (l3 (gvE hg rfl) (gvE hg rfl) (gvE hg rfl))) ?_
  intro w hbc; replace H := H.toBelow hbc
  refine Y.g rfl rfl (fun hg => Ev.not (gvE hg rfl)) <| Y.v (Ev.pickOr rfl rfl rfl) <| Y.v (Ev.mvB rfl) <| OPS.gcall0 (f := 10) (law45Awake _) (fun _ _ h => h) rfl rfl rfl rfl rfl (fun hg => (EvC.func (fun_run rfl))) ?_
  intro w hbc; replace H := H.toBelow hbc
  refine Y.v (Ev.pickAnd rfl rfl rfl) <| Y.v (Ev.asB rfl) <| Y.z ?_
  refine WP.ret ⟨_, rfl, ?_⟩
  refine ⟨ret_b rfl ?_, H.below⟩
  have hb := make_best hE (rs2 := rs2) (left2 := left2) hM
  by_cases h1 : ts.length = 1
  · by_cases h6 : ns.length ≤ 6
    · rw [hb h1 h6]; simp
    · have : (6 : Int) < ns.length := by omega
      simp [this]
  · have : ¬ (ts.length : Int) = 1 := by omega
    simp [this]
end Go.Proofs.YtgcokllbophkkaaGreat
